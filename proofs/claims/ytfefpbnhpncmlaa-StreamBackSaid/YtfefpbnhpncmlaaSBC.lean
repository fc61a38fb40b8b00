/- Own texts, one behind the other, each with what the claim uses of it: StmU StmX StmY StmBack Opens CatZ EntH EntI EntJ EntZ StmZ. -/
import Derived.Test.YtfefpbnhpncmlaaChecked
import GoSem.Claim
import GoSem.ClaimJoined
import GoSem.ClaimMapViews
import Derived.JoinedTies
import Derived.KernelRfl
import Derived.Test.YtfefpbnhpncmlaaProg
import Derived.Below
import Derived.Deep.Draws
import Derived.Deep.AppendLies
import Derived.Maps.AppendAt
import Derived.OwnWalk
import Derived.Laws.BytesArg
import Derived.Laws.MakeOwn
import Derived.Laws.OwnMore
import Derived.Deep.OwnRows
import Derived.Tactics
import Derived.Lib.ConvBytes
import Derived.Laws.Slices
import Derived.WalkKit
import Derived.RowKit3
import Derived.Deep.LoopGhost
import Derived.Deep.QuietTactic
import Derived.BigQuiet
import Derived.WideLaws
import Derived.Deep.DeepCutAuto
import Derived.Deep.CutBlock
import Derived.Deep.RegionHeld3
import Derived.Laws.Rows
import Derived.Lib.AppendStr
import Derived.ArgAppend
import Derived.Laws.IdiomCopy
import Derived.OrdersHeld
import Derived.Laws.BitsLemmas
import Derived.RowKit
import Derived.Laws.StructEq
import Derived.Deep.Slices
import Derived.Shelf.Strconv.Itoa0
import Derived.Outline
import Derived.Lib.EndianBits
import Derived.Deep.WholeRow
import Derived.WalkSpells
import Derived.WalkSmall
import Derived.Laws.Tables
import Derived.Deep.MidRow
import Derived.Laws.CopyOwn
import Derived.Laws.Cover3
import Derived.LoopN
import Derived.Lib.SlBytesConst
import Derived.Lib.SmallJoins
import Derived.OpenShut
import Derived.SizedLaws
import Derived.ChangeSlices
import Derived.ProofKit
import Derived.ShutString
import Derived.ChangeOld
import Derived.Test.YtfefpbnhpncmlaaWSized
import Derived.Test.YtfefpbnhpncmlaaWWords
import Derived.Test.YtfefpbnhpncmlaaSBA
import Derived.Test.YtfefpbnhpncmlaaSBB
namespace Go.Proofs.Ytfefpbnhpncmlaa.StmU
open Go.RowKit Go.Proofs.Ytfefpbnhpncmlaa.EntL Go.Proofs.Ytfefpbnhpncmlaa.EntB Go.Proofs.Ytfefpbnhpncmlaa.EntC Go.Proofs.Ytfefpbnhpncmlaa.EntD Go.Proofs.Ytfefpbnhpncmlaa.EntE Go.Proofs.Ytfefpbnhpncmlaa.EntF Go.Proofs.Ytfefpbnhpncmlaa.CatR Go.Proofs.Ytfefpbnhpncmlaa.CatT Go.Proofs.Ytfefpbnhpncmlaa.CatU Go.Proofs.Ytfefpbnhpncmlaa.CatK Go.Proofs.Ytfefpbnhpncmlaa.CatS Go.Proofs.Ytfefpbnhpncmlaa.CatY Go.Proofs.Ytfefpbnhpncmlaa.RefG Go.Proofs.Ytfefpbnhpncmlaa.PtrB Go.Proofs.Ytfefpbnhpncmlaa.PtrG Go.Proofs.Ytfefpbnhpncmlaa.Agg Go.Proofs.Ytfefpbnhpncmlaa.B8 Go.Proofs.Ytfefpbnhpncmlaa.CodL Go.Proofs.Ytfefpbnhpncmlaa.CodA Go.Proofs.Ytfefpbnhpncmlaa.CodB Go.Proofs.Ytfefpbnhpncmlaa.CatL Go.Proofs.Ytfefpbnhpncmlaa.PtrA Go.Proofs.Ytfefpbnhpncmlaa.PtrE Go.Proofs.Ytfefpbnhpncmlaa.PtrF Go.Proofs.Ytfefpbnhpncmlaa.PBaseSigns Go.Proofs.YtfefpbnhpncmlaaW.PrintWords Go.Proofs.YtfefpbnhpncmlaaW.PrintLast Go.Proofs.YtfefpbnhpncmlaaW.PrintMore Go.Proofs.Ytfefpbnhpncmlaa.EntG Go.Proofs.Ytfefpbnhpncmlaa.StmA Go.Proofs.Ytfefpbnhpncmlaa.StmB Go.Proofs.Ytfefpbnhpncmlaa.StmC Go.Proofs.Ytfefpbnhpncmlaa.CrcC Go.Proofs.Ytfefpbnhpncmlaa.StmD Go.Proofs.Ytfefpbnhpncmlaa.StmE Go.Proofs.Ytfefpbnhpncmlaa.CrcL Go.Proofs.Ytfefpbnhpncmlaa.StmL Go.Proofs.Ytfefpbnhpncmlaa.StmF Go.Proofs.Ytfefpbnhpncmlaa.StmG Go.Proofs.Ytfefpbnhpncmlaa.StmH Go.Proofs.Ytfefpbnhpncmlaa.StmI Go.Proofs.Ytfefpbnhpncmlaa.StmJ Go.Proofs.Ytfefpbnhpncmlaa.StmK Go.Proofs.Ytfefpbnhpncmlaa.StmM Go.Proofs.Ytfefpbnhpncmlaa.StmN Go.Proofs.Ytfefpbnhpncmlaa.StmO Go.Proofs.Ytfefpbnhpncmlaa.StmP Go.Proofs.Ytfefpbnhpncmlaa.StmR Go.Proofs.Ytfefpbnhpncmlaa.CrcM Go.Proofs.Ytfefpbnhpncmlaa.StmS Go.Proofs.Ytfefpbnhpncmlaa.StmT Go.Proofs.Ytfefpbnhpncmlaa.StmQ Go.Proofs.Ytfefpbnhpncmlaa.StmV
set_option linter.unusedVariables false
set_option linter.unusedSimpArgs false

section
variable {ops : Array Oper} {o : Oper} {rest : List Oper} {a : Act} {Q : Exit → Act → World → Prop} {K : Act → World → Prop}
theorem wp_alloc79 {w : World} (ho : o.op = .alloc 79)
    (h : K (a.put o.dst (.pointer (some ⟨w.heap.size, 0, none⟩))) (w.alloc (.cells Z79 79))) : o.wp Try.prog a w K Q := by
  unfold Oper.wp execOp
  have hr : (Instr.alloc 79 true (.tuple #[])).run Try.prog w = .ok (.pointer (some ⟨w.heap.size, 0, none⟩)) (w.alloc (.cells Z79 79)) := by kernel_rfl
  simp only [ho, Sem.run_bind, Sem.run_pure, Result.andThen_ok, hr]
  exact h
theorem wp_one_S {w : World} (x : Operand) (ho : o.op = .buildSlice 77 1 #[(0, x)]) (p : Sl) (hx : a.eval x = .agg (encS p))
    (h : K (a.put o.dst (.slice (some ⟨w.heap.size, 0, none⟩) 1 1)) (w.alloc (.cells (encS p) 133))) : o.wp Try.prog a w K Q := by
  unfold Oper.wp execOp
  have hm : (#[(0, x)] : Array (Nat × Operand)).map (fun (i, x) => (i, a.eval x)) = #[(0, .agg (encS p))] := by simp [hx]
  have hr : (Instr.buildSlice 77 1 #[(0, .agg (encS p))]).run Try.prog w = .ok (.slice (some ⟨w.heap.size, 0, none⟩) 1 1) (w.alloc (.cells (encS p) 133)) := by kernel_rfl
  simp only [ho]
  rw [hm]
  simp only [Sem.run_bind, Sem.run_pure, Result.andThen_ok, hr]
  exact h
end
theorem readText_63 (A : Option Addr) (c n : Nat) (l : List Int) (hn : n = l.length) (w : World) (hr : C8 w A n l) (hb : Byt l) (hc : n ≤ c) (hm : n ≤ 1000000) :
    Calls Try.prog 110 #[.slice A n c, .int .i64 ((63 : Nat) : Int)] w fun e w' => e = .returned (.tuple #[.string (readText l 63).1, .int .i64 ((readText l 63).2.1 : Int), .int .i64 (readText l 63).2.2]) ∧ w = w' :=
  readText_calls A c n l hn w hr hb hc hm
theorem numR_le (l : List Int) (hb : Byt l) : 0 ≤ (if badN l 65536 = true then 0 else (readShort l).1) ∧ (if badN l 65536 = true then 0 else (readShort l).1) ≤ 65536 := by
  by_cases h : badN l 65536 = true
  · rw [if_pos h]; omega
  · rw [if_neg h]
    have h2 := readShort_bound hb
    unfold badN at h
    simp at h
    omega
set_option maxRecDepth 100000 in
set_option maxHeartbeats 16000000 in
theorem readS_calls (A : Option Addr) (c n : Nat) (L : List Int) (hn : n = L.length) (w : World) (hr : C8 w A n L) (hb : Byt L) (hc : n ≤ c) (hm : n ≤ 10000) :
    Calls Try.prog 49 #[.slice A n c] w (TellsReadS w (cellS w) L (.agg Z79)) := by
  have HC := Aside0.mk (And.intro hr (And.intro hb hc))
  have HN := Aside0.mk hn
  have B0 := Aside0.mk (below_alloc (Below.refl w.heap.size w) (.cells Z79 79))
  have G0 := Aside0.mk (blk_new w (.cells Z79 79))
  obtain ⟨P, hP⟩ : ∃ P : Ending → World → Prop, P = TellsReadS w (cellS w) L (.agg Z79) := ⟨_, rfl⟩
  rw [← hP]
  have HP := Aside0.mk hP
  clear hP hr hb hn
  go_enter Try.func49, Try.ntmps49
  by_cases h8 : n < 8
  · have d8 : decide ((n : Int) < 8) = true := decide_eq_true (by omega)
    go_wp2_with (refine wpList_store_same rfl 79 (.tmp 2) (.tmp 15) rfl w.heap.size Z79 rfl rfl 79 G0.out (i79 _ _ _) a86Z ?_)
    refine bodyPost_ret (res_ct (p := 2) (q := 3) _ rfl rfl G0.out StmP.u79 rfl (i79 _ _ _)) rfl ?_
    rw [HP.out]
    exact ⟨B0.out, .inl ⟨by rw [← HN.out]; exact h8, rfl⟩⟩
  · have d8 : decide ((n : Int) < 8) = false := decide_eq_false (by omega)
    obtain ⟨k, hk⟩ : ∃ k, n = k + 4 := ⟨n - 4, by omega⟩
    have ek : ((n : Int) - 4) = (k : Int) := by omega
    have hk4 : 4 ≤ k := by omega
    have cutA := cut8_to A n c k (by omega) hc
    have cutB := cut8_from A n c k (by omega)
    have e4 : (L.drop k).length = 4 := by rw [List.length_drop]; have := HN.out; omega
    have hck : ¬ c = k := by omega
    have CD := Aside0.mk (show C8 w (Option.map (fun x => x.add k) A) 4 (L.drop k) by
      have := C8_drop HC.out.1 hc (j := k) (by omega)
      rw [if_neg hck, show n - k = 4 by omega] at this
      exact this)
    have CT := Aside0.mk (show C8 w A k (L.take k) from C_take HC.out.1 (by omega))
    have C4 := Aside0.mk (show C8 w A 4 (L.take 4) from C_take HC.out.1 (by omega))
    have hbD := HC.out.2.1.drop k
    have hbT := HC.out.2.1.take k
    have etk : (L.take k).length = k := by rw [List.length_take]; have := HN.out; omega
    have hlb := leL_bound hbD
    rw [e4] at hlb
    have hsl := sumN_lt (L.take k)
    have HOK : Aside0 (OkSum L ↔ leL (L.drop k) = (sumN (L.take k) : Int)) := ⟨by
      unfold OkSum
      rw [show L.length - 4 = k by have := HN.out; omega]⟩
    have ER0 := Aside0.mk (show (L.take k).drop 4 = rest0 L by rw [rest0, show L.length - 4 = k by have := HN.out; omega])
    have HB0 := Aside0.mk (And.intro hbD (And.intro hbT (And.intro e4 etk)))
    clear hbD hbT
    go_wp2_with fail
    generalize hW0 : w.alloc (.cells Z79 79) = W0 at *
    have hs0 : W0.heap.size = w.heap.size + 1 := by rw [← hW0]; simp
    clear hW0
    have T := CodB.take_calls (A.map (fun x => x.add k)) (c - k) (L.drop k) 4 W0 (by rw [e4]; exact Kd.C_below CD.out B0.out) HB0.out.1 (by omega) (by omega) (by decide) (by decide) (by omega)
    rw [show (L.drop k).take 4 = L.drop k from List.take_of_length_le (by omega), e4] at T
    refine T.mono ?_
    rintro e w1 ⟨v1, rfl, hr1, hb1⟩
    have B1 := Aside0.mk (below_then B0.out B0.out.size hb1)
    have G1 := Aside0.mk (blk_below G0.out hb1)
    have hs1 : w.heap.size < w1.heap.size := by have := hb1.size; omega
    have wr32 : IntKind.u32.wrap (leL (L.drop k)) = leL (L.drop k) := by rw [IntKind.wrap_u32]; omega
    clear T hr1 hb1 G0 B0 hs0
    go_wp2_with fail
    refine (sum_calls A c k (L.take k) etk.symm w1 (Kd.C_below CT.out B1.out) HB0.out.2.1).mono ?_
    rintro e w2 ⟨rfl, hb2⟩
    have B2 := Aside0.mk (below_then B1.out B1.out.size hb2)
    have G2 := Aside0.mk (blk_below G1.out hb2)
    have hs2 : w.heap.size < w2.heap.size := by have := hb2.size; omega
    clear hb2 B1 G1 hs1
    by_cases hok : leL (L.drop k) = (sumN (L.take k) : Int)
    case neg =>
      have hne : (leL (L.drop k) != (sumN (L.take k) : Int)) = true := by simp [hok]
      have hne2 : (leL (L.drop k) == (sumN (L.take k) : Int)) = false := by simp [hok]
      have HOK2 := Aside0.mk (fun h => hok (HOK.out.1 h))
      clear hok HOK
      go_wp2_with (refine wpList_store_same rfl 79 (.tmp 2) (.tmp 34) rfl w.heap.size Z79 rfl rfl 79 G2.out (i79 _ _ _) a86Z ?_)
      refine bodyPost_ret (res_ct (p := 2) (q := 3) _ rfl rfl G2.out StmP.u79 rfl (i79 _ _ _)) rfl ?_
      rw [HP.out]
      exact ⟨B2.out, .inr (.inl ⟨by rw [← HN.out]; omega, HOK2.out, rfl⟩)⟩
    case pos =>
      have hne : (leL (L.drop k) != (sumN (L.take k) : Int)) = false := by simp [hok]
      have hne2 : (leL (L.drop k) == (sumN (L.take k) : Int)) = true := by simp [hok]
      have HOK2 := Aside0.mk (HOK.out.2 hok)
      clear hok HOK
      have cutM : ∀ W, (Instr.slice 31 (.slice A (k + 4) c) none (some (.int .i64 4)) none).run Try.prog W = .ok (.slice A 4 c) W := fun W => cut8_to A (k + 4) c 4 (by omega) (by omega) W
      have cm := Kd.C_string (P := Try.prog) (c := c) Try.underlying31 Try.underlying5 Try.underlying9 (Kd.C_below C4.out B2.out)
      have hS := magic_str (L.take 4) (HC.out.2.1.take 4)
      by_cases hmg : L.take 4 = [83, 66, 88, 83]
      case neg =>
        rw [decide_eq_false hmg] at hS
        have HNO := Aside0.mk (noS_magic hmg)
        clear hmg
        generalize strOfNums (L.take 4) = S4 at *
        go_wp2_with (refine wpList_store_same rfl 79 (.tmp 2) (.tmp 39) rfl w.heap.size Z79 rfl rfl 79 G2.out (i79 _ _ _) a86Z ?_)
        refine bodyPost_ret (res_ct (p := 2) (q := 3) _ rfl rfl G2.out StmP.u79 rfl (i79 _ _ _)) rfl ?_
        rw [HP.out]
        exact ⟨B2.out, .inr (.inr (.inl ⟨by rw [← HN.out]; omega, HOK2.out, HNO.out, rfl⟩))⟩
      case pos =>
        rw [decide_eq_true hmg] at hS
        clear hmg
        generalize strOfNums (L.take 4) = S4 at *
        have hl0 : (rest0 L).length = k - 4 := by rw [rest0_len]; have := HN.out; omega
        have HBR := Aside0.mk (show Byt (rest0 L) by rw [← ER0.out]; exact HB0.out.2.1.drop 4)
        have cutC : ∀ W, (Instr.slice 31 (.slice A (k + 4) c) (some (.int .i64 4)) (some (.int .i64 (k : Int))) none).run Try.prog W = .ok (.slice (if c = 4 then A else A.map (·.add 4)) (k - 4) (c - 4)) W := fun W => cut8_mid A (k + 4) c 4 k hk4 (by omega) (by omega) W
        have CR0 := Aside0.mk (C8_mid (c := c) HC.out.1 hc hk4 (show k ≤ n by omega))
        rw [ER0.out] at CR0
        generalize (if c = 4 then A else A.map (·.add 4)) = A0 at cutC CR0
        have HR0' := Aside0.mk (⟨B2.out.alloc B2.out.size _, ⟨A0, c - 4, by rw [hl0]; exact CR0.out, by omega, by rw [hl0]; exact blk_new w2 _⟩, by omega, HBR.out, by omega⟩ : RB w w2.heap.size (rest0 L) false (w2.alloc (.cells #[.slice A0 (k - 4) (c - 4), .nilIface] 149)))
        have HZ0' := Aside0.mk (blk_alloc G2.out (.cells #[.slice A0 (k - 4) (c - 4), .nilIface] 149))
        have HD : Aside0 (headR L = ((readText (rest0 L) 63).1, (readText ((rest0 L).drop (readText (rest0 L) 63).2.1) 63).1, (if badN (((rest0 L).drop (readText (rest0 L) 63).2.1).drop (readText ((rest0 L).drop (readText (rest0 L) 63).2.1) 63).2.1) 65536 = true then 0 else (readShort (((rest0 L).drop (readText (rest0 L) 63).2.1).drop (readText ((rest0 L).drop (readText (rest0 L) 63).2.1) 63).2.1)).1), (if badN (((rest0 L).drop (readText (rest0 L) 63).2.1).drop (readText ((rest0 L).drop (readText (rest0 L) 63).2.1) 63).2.1) 65536 = true then (((rest0 L).drop (readText (rest0 L) 63).2.1).drop (readText ((rest0 L).drop (readText (rest0 L) 63).2.1) 63).2.1) else (((rest0 L).drop (readText (rest0 L) 63).2.1).drop (readText ((rest0 L).drop (readText (rest0 L) 63).2.1) 63).2.1).drop (readShort (((rest0 L).drop (readText (rest0 L) 63).2.1).drop (readText ((rest0 L).drop (readText (rest0 L) 63).2.1) 63).2.1)).2.1), (((false || decide ((readText (rest0 L) 63).2.2 ≠ 0)) || decide ((readText ((rest0 L).drop (readText (rest0 L) 63).2.1) 63).2.2 ≠ 0)) || badN (((rest0 L).drop (readText (rest0 L) 63).2.1).drop (readText ((rest0 L).drop (readText (rest0 L) 63).2.1) 63).2.1) 65536))) := ⟨rfl⟩
        have HST := Aside0.mk (inv_start L)
        rw [HD.out] at HST
        simp only at HST
        clear HD CR0 HBR G2 B2 CT CD
        go_wp2
        clear cm hS C4
        generalize hg : w2.heap.size = g at *
        clear hg
        have HR0 := Aside0.mk (HR0'.out.on (below_drew (Below.refl _ _)))
        have HZ0 := Aside0.mk (blk_below HZ0'.out (below_drew (Below.refl _ _)))
        clear HR0' HZ0'
        refine wp_region_held_drew (S := fun _ => True) (by kernel_rfl) trivial (fun _ => ?_)
        generalize hW0 : (w2.alloc (.cells #[.slice A0 (k - 4) (c - 4), .nilIface] 149)).drew = W0 at *
        clear hW0
        have hzg0 := HR0.out.lt
        refine wpAnyH_take (i := 0) (oi := ⟨some 45, _, _, _, _, _⟩) (v := .pointer (some ⟨g, 0, none⟩)) rfl (by kernel_rfl) (by kernel_rfl) (by kernel_rfl) (fun _ _ _ h => h) (.inl ⟨by rfl, fun W1 h1 => by go_simp⟩) trivial ?_
        try simp only [Act.put, List.setIfInBounds_toArray, List.set_cons_zero, List.set_cons_succ]
        refine wpAnyH_take (i := 3) (oi := ⟨some 48, _, _, _, _, _⟩) (v := .pointer (some ⟨g, 0, none⟩)) rfl (by kernel_rfl) (by kernel_rfl) (by kernel_rfl) (fun _ _ _ h => h) (.inl ⟨by rfl, fun W1 h1 => by go_simp⟩) trivial ?_
        try simp only [Act.put, List.setIfInBounds_toArray, List.set_cons_zero, List.set_cons_succ]
        refine wpAnyH_ready (rs := [1, 7]) (by kernel_rfl) (by simp) (AllReadyH.cons rfl (fun K1 hK1 => ?_) (AllReadyH.cons rfl (fun K2 hK2 => ?_) AllReadyH.nil))
        · go_simp
          refine (textT_calls 63 (by decide) readText_63 w g (rest0 L) false W0 HR0.out).mono ?_
          rintro e Wa0 ⟨A46, c46, fr46, rfl, hc46, hle46, hrd, hkp⟩
          generalize (readText (rest0 L) 63).1 = s1 at *
          generalize (rest0 L).drop (readText (rest0 L) 63).2.1 = l1 at *
          generalize (false || decide ((readText (rest0 L) 63).2.2 ≠ 0)) = b1 at *
          have HR1 := Aside0.mk hrd
          have HZ1 := Aside0.mk (hkp.blk HZ0.out (Ne.symm (Nat.ne_of_gt hs2)) (by simp))
          have C11 := Aside0.mk hc46
          have hz0 := hkp.1
          clear hrd hkp hc46 hle46
          refine hK1.out _ _ trivial (fun hW => ?_)
          try simp only [Act.put, List.setIfInBounds_toArray, List.set_cons_zero, List.set_cons_succ]
          refine wpAnyH_mono (S' := fun w' => C8 w' A46 s1.size (bytesOf s1)) (fun _ _ => trivial) ?_
          refine wpAnyH_take (i := 2) (oi := ⟨some 47, _, _, _, _, _⟩) (v := .string s1) rfl (by kernel_rfl) (by kernel_rfl) (by kernel_rfl) (fun _ _ _ h => h) (.inl ⟨by rfl, fun W1 h1 => by (have x1 := Kd.C_string (c := c46) (P := Try.prog) Try.underlying31 Try.underlying5 Try.underlying9 h1; rw [str_bytes] at x1); go_simp⟩) C11.out ?_
          try simp only [Act.put, List.setIfInBounds_toArray, List.set_cons_zero, List.set_cons_succ]
          refine wpAnyH_ready (rs := [4, 7]) (by kernel_rfl) (by simp) (AllReadyH.cons rfl (fun K3 hK3 => ?_) (AllReadyH.cons rfl (fun K4 hK4 => ?_) AllReadyH.nil))
          · go_simp
            refine (textT_calls 63 (by decide) readText_63 w g l1 b1 Wa0 HR1.out).mono ?_
            rintro e Wa1 ⟨A49, c49, fr49, rfl, hc49, hle49, hrd, hkp⟩
            generalize (readText l1 63).1 = s2 at *
            generalize l1.drop (readText l1 63).2.1 = l2 at *
            generalize (b1 || decide ((readText l1 63).2.2 ≠ 0)) = b2 at *
            have HR2 := Aside0.mk hrd
            have HZ2 := Aside0.mk (hkp.blk HZ1.out (Ne.symm (Nat.ne_of_gt hs2)) (by simp))
            have C42 := Aside0.mk hc49
            have C12 := Aside0.mk (C8_moves C11.out fun ad e => hkp.2 _ (Nat.lt_of_lt_of_le (fr46 ad e).2 (by omega)) (by have := (fr46 ad e).1; omega) (by simp))
            have hz1 := hkp.1
            clear hrd hkp hc49 hle49
            refine hK3.out _ _ C12.out (fun hW => ?_)
            try simp only [Act.put, List.setIfInBounds_toArray, List.set_cons_zero, List.set_cons_succ]
            refine wpAnyH_mono (S' := fun w' => C8 w' A46 s1.size (bytesOf s1) ∧ C8 w' A49 s2.size (bytesOf s2)) (fun _ h => h.1) ?_
            refine wpAnyH_take (i := 5) (oi := ⟨some 50, _, _, _, _, _⟩) (v := .string s2) rfl (by kernel_rfl) (by kernel_rfl) (by kernel_rfl) (fun _ _ _ h => h) (.inl ⟨by rfl, fun W1 h1 => by (have x1 := Kd.C_string (c := c49) (P := Try.prog) Try.underlying31 Try.underlying5 Try.underlying9 h1.2; rw [str_bytes] at x1); go_simp⟩) ⟨C12.out, C42.out⟩ ?_
            try simp only [Act.put, List.setIfInBounds_toArray, List.set_cons_zero, List.set_cons_succ]
            refine wpAnyH_take (i := 6) (oi := ⟨some 51, _, _, _, _, _⟩) (v := .agg #[.string s1, .string s2, .slice none 0 0]) rfl (by kernel_rfl) (by kernel_rfl) (by kernel_rfl) (fun _ _ _ h => h) (.inl ⟨by rfl, fun W1 h1 => by go_simp⟩) ⟨C12.out, C42.out⟩ ?_
            try simp only [Act.put, List.setIfInBounds_toArray, List.set_cons_zero, List.set_cons_succ]
            refine wpAnyH_ready (rs := [7]) (by kernel_rfl) (by simp) (AllReadyH.cons rfl (fun K5 hK5 => ?_) AllReadyH.nil)
            refine wp_alloc79 (o := ⟨some 9, _, _, _, _, _⟩) rfl ?_
            have hb2 := below_alloc (Below.refl Wa1.heap.size Wa1) (.cells Z79 79)
            have HR3 := Aside0.mk (HR2.out.on hb2)
            have HZ3 := Aside0.mk (blk_below HZ2.out hb2)
            have HX3 := Aside0.mk (blk_new Wa1 (.cells Z79 79))
            have hz2 := hb2.size
            have hzg : Wa1.heap.size < (Wa1.alloc (.cells Z79 79)).heap.size := by simp
            have C13 := Aside0.mk (Kd.C_below C12.out hb2)
            have C43 := Aside0.mk (Kd.C_below C42.out hb2)
            refine hK5.out _ _ ⟨C13.out, C43.out⟩ (fun hW => ?_)
            try simp only [Act.put, List.setIfInBounds_toArray, List.set_cons_zero, List.set_cons_succ]
            clear hb2
            generalize hWn2 : Wa1.alloc (.cells Z79 79) = Wa2 at *
            clear hWn2
            have hgx : g < Wa1.heap.size := by omega
            refine wpAnyH_ready (rs := [8]) (by kernel_rfl) (by simp) (AllReadyH.cons rfl (fun K6 hK6 => ?_) AllReadyH.nil)
            refine wp_store_row (o := ⟨none, _, _, _, _, _⟩) 79 (.tmp 9) (.tmp 51) rfl Wa1.heap.size #[.string s1, .string s2, .slice none 0 0] rfl rfl 79 Z79 HX3.out (i79 _ _ _) rfl (a86 _ _ _ _ _) ?_
            have hz46 : ∀ ad, A46 = some ad → ad.block ≠ Wa1.heap.size := fun ad e => by have := fr46 ad e; omega
            have hz49 : ∀ ad, A49 = some ad → ad.block ≠ Wa1.heap.size := fun ad e => by have := fr49 ad e; omega
            refine hK6.out _ _ ⟨C8_moves C13.out fun ad e => setRow_other _ _ _ _ (hz46 ad e), C8_moves C43.out fun ad e => setRow_other _ _ _ _ (hz49 ad e)⟩ (fun hW => ?_)
            try simp only [Act.put, List.setIfInBounds_toArray, List.set_cons_zero, List.set_cons_succ]
            refine wpAnyH_done (by kernel_rfl) ?_ _
            have HU := Aside0.mk (⟨HR3.out.keep (below_setRow HR3.out.below (by omega) _) (setRow_other _ _ _ _ (by omega)), setRow_heap _ _ _ _ 79 _ HX3.out, (setRow_other _ _ _ _ (by omega)).trans HZ3.out, by omega, by omega, by omega, by omega, Kd.R_nil _ _ _ _ _, rfl, fun i hi => absurd hi (Nat.not_lt_zero _), fun i hi => absurd hi (Nat.not_lt_zero _)⟩ : IU w g Wa1.heap.size l2 b2 s1 s2 (.slice none 0 0) [] [] (Wa2.setRow Wa1.heap.size #[.string s1, .string s2, .slice none 0 0]))
            clear hz46 hz49 hW fr46 fr49 hgx
            generalize Wa1.heap.size = gx at *
            generalize Wa2.setRow gx #[.string s1, .string s2, .slice none 0 0] = Wz at *
            go_wp2_with fail
            refine (numT_calls 65536 (by decide) w g l2 b2 Wz HU.out.rd).mono ?_
            rintro e Wn ⟨rfl, hrd, hkp⟩
            have hnb := numR_le l2 HU.out.rd.byt
            have HU2 := Aside0.mk (HU.out.keep hrd hkp)
            clear hrd hkp HU
            generalize (if badN l2 65536 = true then 0 else (readShort l2).1) = nn at *
            generalize (if badN l2 65536 = true then l2 else l2.drop (readShort l2).2.1) = l3 at *
            generalize (b2 || badN l2 65536) = b3 at *
            obtain ⟨N, rfl⟩ : ∃ N : Nat, nn = (N : Int) := ⟨nn.toNat, by omega⟩
            rw [Int.toNat_natCast] at HST
            have hcon : Try.prog.concrete 41 = true := by kernel_rfl
            go_wp2
            go_loopw [54] (fun v54 wr => ∃ (j : Nat) (cs : List Chg) (sl : List Sl) (vL : Value) (l : List Int) (bad : Bool), v54 = .int .i64 (j : Int) ∧ j ≤ N ∧ Aside0 (Inv L s1 s2 N j cs l bad) ∧ Aside0 (IU w g gx l bad s1 s2 vL cs sl wr)) (fun v _ => N - (intOf v).toNat)
            case atStart => exact ⟨0, [], [], .slice none 0 0, l3, b3, rfl, Nat.zero_le _, HST, HU2⟩
            case round =>
              obtain ⟨j, cs, sl, vL, l, bad, rfl, hj, HI, HU⟩ := hrel
              clear HST HU2
              obtain ⟨Ar, cr, hCr, hlr, hgr⟩ := HU.out.rd.blk
              have HGR := Aside0.mk hgr
              clear hCr hlr hgr
              cases bad with
              | true =>
                have HNO := Aside0.mk (inv_bad HI.out)
                have xg : wr.cell? ⟨g, 1, none⟩ = some (.iface 41 (.int .i64 11)) := by rw [cell_of_row _ _ 1 _ 149 (0, 0) HGR.out]; rfl
                have hq : ∀ W : World, (binOp .neq 147 (.iface 41 (.int .i64 11)) .nilIface).run Try.prog W = .ok (.bool true) W := fun W => by kernel_rfl
                by_cases hlt : j < N
                · have dj : decide ((j : Int) < (N : Int)) = true := decide_eq_true (by omega)
                  go_wp2_with fail
                  refine (is_form wr).mono ?_
                  rintro e w' ⟨rfl, rfl⟩
                  go_wp2_with (refine wpList_store_same rfl 79 (.tmp 2) (.tmp 83) rfl w.heap.size Z79 rfl rfl 79 HU.out.h2 (i79 _ _ _) a86Z ?_)
                  refine bodyPost_ret (res_ct (p := 2) (q := 3) _ rfl rfl HU.out.h2 StmP.u79 rfl (i79 _ _ _)) rfl ?_
                  rw [HP.out]
                  exact ⟨HU.out.rd.below, .inr (.inr (.inl ⟨by rw [← HN.out]; omega, HOK2.out, HNO.out, rfl⟩))⟩
                · have dj : decide ((j : Int) < (N : Int)) = false := decide_eq_false (by omega)
                  go_wp2_with fail
                  refine (is_form wr).mono ?_
                  rintro e w' ⟨rfl, rfl⟩
                  go_wp2_with (refine wpList_store_same rfl 79 (.tmp 2) (.tmp 83) rfl w.heap.size Z79 rfl rfl 79 HU.out.h2 (i79 _ _ _) a86Z ?_)
                  refine bodyPost_ret (res_ct (p := 2) (q := 3) _ rfl rfl HU.out.h2 StmP.u79 rfl (i79 _ _ _)) rfl ?_
                  rw [HP.out]
                  exact ⟨HU.out.rd.below, .inr (.inr (.inl ⟨by rw [← HN.out]; omega, HOK2.out, HNO.out, rfl⟩))⟩
              | false =>
                have xg : wr.cell? ⟨g, 1, none⟩ = some .nilIface := by rw [cell_of_row _ _ 1 _ 149 (0, 0) HGR.out]; rfl
                have hq : ∀ W : World, (binOp .neq 147 .nilIface .nilIface).run Try.prog W = .ok (.bool false) W := fun W => by kernel_rfl
                by_cases hlt : j < N
                · have dj : decide ((j : Int) < (N : Int)) = true := decide_eq_true (by omega)
                  go_wp2
                  clear xg hq
                  have HUd := Aside0.mk (HU.out.on (below_drew (Below.refl wr.heap.size wr)))
                  clear HU
                  refine wp_region_held_drew (S := fun _ => True) (by kernel_rfl) trivial (fun _ => ?_)
                  generalize hWr : wr.drew = Wr at *
                  clear hWr
                  refine wpAnyH_take (i := 0) (oi := ⟨some 61, _, _, _, _, _⟩) (v := .pointer (some ⟨gx, 2, none⟩)) rfl (by kernel_rfl) (by kernel_rfl) (by kernel_rfl) (fun _ _ _ h => h) (.inl ⟨by rfl, fun W1 h1 => by go_simp⟩) trivial ?_
                  try simp only [Act.put, List.setIfInBounds_toArray, List.set_cons_zero, List.set_cons_succ]
                  refine wpAnyH_take (i := 2) (oi := ⟨some 63, _, _, _, _, _⟩) (v := .pointer (some ⟨g, 0, none⟩)) rfl (by kernel_rfl) (by kernel_rfl) (by kernel_rfl) (fun _ _ _ h => h) (.inl ⟨by rfl, fun W1 h1 => by go_simp⟩) trivial ?_
                  try simp only [Act.put, List.setIfInBounds_toArray, List.set_cons_zero, List.set_cons_succ]
                  refine wpAnyH_ready (rs := [1, 3]) (by kernel_rfl) (by simp) (AllReadyH.cons rfl (fun J1 hJ1 => ?_) (AllReadyH.cons rfl (fun J2 hJ2 => ?_) AllReadyH.nil))
                  · have xl : Wr.cell? ⟨gx, 2, none⟩ = some vL := by rw [cell_of_row _ _ 2 _ 79 (0, 0) HUd.out.hx]; rfl
                    go_simp
                    refine hJ1.out _ _ trivial (fun _ => ?_)
                    try simp only [Act.put, List.setIfInBounds_toArray, List.set_cons_zero, List.set_cons_succ]
                    clear xl
                    refine wpAnyH_ready (rs := [3]) (by kernel_rfl) (by simp) (AllReadyH.cons rfl (fun J3 hJ3 => ?_) AllReadyH.nil)
                    go_simp
                    refine (change_calls w g l false Wr HUd.out.rd).mono ?_
                    rintro e W1 ⟨A1, n1, c1, A2, n2, c2, A3, n3, c3, f1, f2, f3, rfl, hca, hrd, hkp⟩
                    have HUe := Aside0.mk (HUd.out.keep hrd hkp)
                    have HP1 := Aside0.mk (show Sl.ca W1 ⟨A1, n1, c1, A2, n2, c2, A3, n3, c3, (chgR l false).1.gone⟩ (chgR l false).1 from ⟨hca, rfl⟩)
                    have HF1 := Aside0.mk (show FarP w g gx vL.ownBlock W1 ⟨A1, n1, c1, A2, n2, c2, A3, n3, c3, (chgR l false).1.gone⟩ from fun ad e => by
                      have hb : Wr.heap.size ≤ ad.block ∧ ad.block < W1.heap.size := by
                        rcases e with e | e | e
                        · exact f1 ad e
                        · exact f2 ad e
                        · exact f3 ad e
                      have q1 := HUd.out.rd.lt
                      have q2 := blk_lt HUd.out.hx
                      have q3 := blk_lt HUd.out.h2
                      have q4 := Kd.R_lt HUd.out.row
                      refine ⟨by omega, by omega, by omega, fun he => ?_, hb.2⟩
                      have := q4 _ he.symm
                      omega)
                    clear hca hrd hkp f1 f2 f3
                    refine hJ3.out _ _ trivial (fun _ => ?_)
                    try simp only [Act.put, List.setIfInBounds_toArray, List.set_cons_zero, List.set_cons_succ]
                    refine wpAnyH_ready (rs := [4]) (by kernel_rfl) (by simp) (AllReadyH.cons rfl (fun J4 hJ4 => ?_) AllReadyH.nil)
                    refine wp_one_S (o := ⟨some 65, _, _, _, _, _⟩) (.tmp 64) rfl ⟨A1, n1, c1, A2, n2, c2, A3, n3, c3, (chgR l false).1.gone⟩ rfl ?_
                    refine hJ4.out _ _ trivial (fun _ => ?_)
                    try simp only [Act.put, List.setIfInBounds_toArray, List.set_cons_zero, List.set_cons_succ]
                    refine wpAnyH_ready (rs := [5]) (by kernel_rfl) (by simp) (AllReadyH.cons rfl (fun J5 hJ5 => ?_) AllReadyH.nil)
                    refine wp_append_S (o := ⟨some 66, _, _, _, _, _⟩) (w0 := w) w.heap.size (.tmp 62) (.tmp 65) rfl vL sl ⟨A1, n1, c1, A2, n2, c2, A3, n3, c3, (chgR l false).1.gone⟩ rfl rfl HUe.out.row HUe.out.rd.below HUe.out.rd.below.size (by have := HUe.out.len; have := HI.out.len; omega) ?_
                    intro v9 w9 hr9 hb9 hg9 ho9
                    have HU9 := Aside0.mk (HUe.out.push HP1.out HF1.out hr9 hb9 hg9 ho9)
                    have e9 := blk_grown HUe.out.hx hg9 (Kd.R_ne HUe.out.row HUe.out.hx (by decide))
                    have x9 : w9.cell? ⟨gx, 2, none⟩ = some vL := by rw [cell_of_row _ _ 2 _ 79 (0, 0) e9]; rfl
                    have f9 := frozen_of_row w9 gx 2 _ 79 e9
                    obtain ⟨A9, c9, hv9⟩ := Kd.R_slice hr9
                    generalize (sl ++ [_]).length = n9 at hv9
                    subst hv9
                    clear hr9 hb9 hg9 ho9 e9
                    refine hJ5.out _ _ trivial (fun _ => ?_)
                    try simp only [Act.put, List.setIfInBounds_toArray, List.set_cons_zero, List.set_cons_succ]
                    refine wpAnyH_take (i := 6) (oi := ⟨some 67, _, _, _, _, _⟩) (v := .pointer (some ⟨gx, 2, none⟩)) rfl (by kernel_rfl) (by kernel_rfl) (by kernel_rfl) (fun _ _ _ h => h) (.inl ⟨by rfl, fun W1 h1 => by go_simp⟩) trivial ?_
                    try simp only [Act.put, List.setIfInBounds_toArray, List.set_cons_zero, List.set_cons_succ]
                    refine wpAnyH_ready (rs := [7]) (by kernel_rfl) (by simp) (AllReadyH.cons rfl (fun J6 hJ6 => ?_) AllReadyH.nil)
                    go_simp
                    refine hJ6.out _ _ trivial (fun _ => ?_)
                    try simp only [Act.put, List.setIfInBounds_toArray, List.set_cons_zero, List.set_cons_succ]
                    refine wpAnyH_done (by kernel_rfl) ?_ _
                    clear x9 f9
                    go_wp2
                    go_roundw
                    case rel => exact ⟨j + 1, _, _, _, _, _, by go_num, by omega, ⟨inv_step HI.out hlt⟩, HU9⟩
                    case measure => simp [intOf]; omega
                  · go_simp
                    refine (change_calls w g l false Wr HUd.out.rd).mono ?_
                    rintro e W1 ⟨A1, n1, c1, A2, n2, c2, A3, n3, c3, f1, f2, f3, rfl, hca, hrd, hkp⟩
                    have HUe := Aside0.mk (HUd.out.keep hrd hkp)
                    have HP1 := Aside0.mk (show Sl.ca W1 ⟨A1, n1, c1, A2, n2, c2, A3, n3, c3, (chgR l false).1.gone⟩ (chgR l false).1 from ⟨hca, rfl⟩)
                    have HF1 := Aside0.mk (show FarP w g gx vL.ownBlock W1 ⟨A1, n1, c1, A2, n2, c2, A3, n3, c3, (chgR l false).1.gone⟩ from fun ad e => by
                      have hb : Wr.heap.size ≤ ad.block ∧ ad.block < W1.heap.size := by
                        rcases e with e | e | e
                        · exact f1 ad e
                        · exact f2 ad e
                        · exact f3 ad e
                      have q1 := HUd.out.rd.lt
                      have q2 := blk_lt HUd.out.hx
                      have q3 := blk_lt HUd.out.h2
                      have q4 := Kd.R_lt HUd.out.row
                      refine ⟨by omega, by omega, by omega, fun he => ?_, hb.2⟩
                      have := q4 _ he.symm
                      omega)
                    clear hca hrd hkp f1 f2 f3
                    refine hJ2.out _ _ trivial (fun _ => ?_)
                    try simp only [Act.put, List.setIfInBounds_toArray, List.set_cons_zero, List.set_cons_succ]
                    refine wpAnyH_ready (rs := [1, 4]) (by kernel_rfl) (by simp) (AllReadyH.cons rfl (fun J3 hJ3 => ?_) (AllReadyH.cons rfl (fun J4 hJ4 => ?_) AllReadyH.nil))
                    · have xl : W1.cell? ⟨gx, 2, none⟩ = some vL := by rw [cell_of_row _ _ 2 _ 79 (0, 0) HUe.out.hx]; rfl
                      go_simp
                      refine hJ3.out _ _ trivial (fun _ => ?_)
                      try simp only [Act.put, List.setIfInBounds_toArray, List.set_cons_zero, List.set_cons_succ]
                      clear xl
                      refine wpAnyH_ready (rs := [4]) (by kernel_rfl) (by simp) (AllReadyH.cons rfl (fun J7 hJ7 => ?_) AllReadyH.nil)
                      refine wp_one_S (o := ⟨some 65, _, _, _, _, _⟩) (.tmp 64) rfl ⟨A1, n1, c1, A2, n2, c2, A3, n3, c3, (chgR l false).1.gone⟩ rfl ?_
                      refine hJ7.out _ _ trivial (fun _ => ?_)
                      try simp only [Act.put, List.setIfInBounds_toArray, List.set_cons_zero, List.set_cons_succ]
                      refine wpAnyH_ready (rs := [5]) (by kernel_rfl) (by simp) (AllReadyH.cons rfl (fun J5 hJ5 => ?_) AllReadyH.nil)
                      refine wp_append_S (o := ⟨some 66, _, _, _, _, _⟩) (w0 := w) w.heap.size (.tmp 62) (.tmp 65) rfl vL sl ⟨A1, n1, c1, A2, n2, c2, A3, n3, c3, (chgR l false).1.gone⟩ rfl rfl HUe.out.row HUe.out.rd.below HUe.out.rd.below.size (by have := HUe.out.len; have := HI.out.len; omega) ?_
                      intro v9 w9 hr9 hb9 hg9 ho9
                      have HU9 := Aside0.mk (HUe.out.push HP1.out HF1.out hr9 hb9 hg9 ho9)
                      have e9 := blk_grown HUe.out.hx hg9 (Kd.R_ne HUe.out.row HUe.out.hx (by decide))
                      have x9 : w9.cell? ⟨gx, 2, none⟩ = some vL := by rw [cell_of_row _ _ 2 _ 79 (0, 0) e9]; rfl
                      have f9 := frozen_of_row w9 gx 2 _ 79 e9
                      obtain ⟨A9, c9, hv9⟩ := Kd.R_slice hr9
                      generalize (sl ++ [_]).length = n9 at hv9
                      subst hv9
                      clear hr9 hb9 hg9 ho9 e9
                      refine hJ5.out _ _ trivial (fun _ => ?_)
                      try simp only [Act.put, List.setIfInBounds_toArray, List.set_cons_zero, List.set_cons_succ]
                      refine wpAnyH_take (i := 6) (oi := ⟨some 67, _, _, _, _, _⟩) (v := .pointer (some ⟨gx, 2, none⟩)) rfl (by kernel_rfl) (by kernel_rfl) (by kernel_rfl) (fun _ _ _ h => h) (.inl ⟨by rfl, fun W1 h1 => by go_simp⟩) trivial ?_
                      try simp only [Act.put, List.setIfInBounds_toArray, List.set_cons_zero, List.set_cons_succ]
                      refine wpAnyH_ready (rs := [7]) (by kernel_rfl) (by simp) (AllReadyH.cons rfl (fun J6 hJ6 => ?_) AllReadyH.nil)
                      go_simp
                      refine hJ6.out _ _ trivial (fun _ => ?_)
                      try simp only [Act.put, List.setIfInBounds_toArray, List.set_cons_zero, List.set_cons_succ]
                      refine wpAnyH_done (by kernel_rfl) ?_ _
                      clear x9 f9
                      go_wp2
                      go_roundw
                      case rel => exact ⟨j + 1, _, _, _, _, _, by go_num, by omega, ⟨inv_step HI.out hlt⟩, HU9⟩
                      case measure => simp [intOf]; omega
                    · refine wp_one_S (o := ⟨some 65, _, _, _, _, _⟩) (.tmp 64) rfl ⟨A1, n1, c1, A2, n2, c2, A3, n3, c3, (chgR l false).1.gone⟩ rfl ?_
                      refine hJ4.out _ _ trivial (fun _ => ?_)
                      try simp only [Act.put, List.setIfInBounds_toArray, List.set_cons_zero, List.set_cons_succ]
                      refine wpAnyH_ready (rs := [1]) (by kernel_rfl) (by simp) (AllReadyH.cons rfl (fun J7 hJ7 => ?_) AllReadyH.nil)
                      have xl : (W1.alloc (.cells (encS ⟨A1, n1, c1, A2, n2, c2, A3, n3, c3, (chgR l false).1.gone⟩) 133)).cell? ⟨gx, 2, none⟩ = some vL := by rw [cell_of_row _ _ 2 _ 79 (0, 0) (blk_alloc HUe.out.hx _)]; rfl
                      go_simp
                      refine hJ7.out _ _ trivial (fun _ => ?_)
                      try simp only [Act.put, List.setIfInBounds_toArray, List.set_cons_zero, List.set_cons_succ]
                      clear xl
                      refine wpAnyH_ready (rs := [5]) (by kernel_rfl) (by simp) (AllReadyH.cons rfl (fun J5 hJ5 => ?_) AllReadyH.nil)
                      refine wp_append_S (o := ⟨some 66, _, _, _, _, _⟩) (w0 := w) w.heap.size (.tmp 62) (.tmp 65) rfl vL sl ⟨A1, n1, c1, A2, n2, c2, A3, n3, c3, (chgR l false).1.gone⟩ rfl rfl HUe.out.row HUe.out.rd.below HUe.out.rd.below.size (by have := HUe.out.len; have := HI.out.len; omega) ?_
                      intro v9 w9 hr9 hb9 hg9 ho9
                      have HU9 := Aside0.mk (HUe.out.push HP1.out HF1.out hr9 hb9 hg9 ho9)
                      have e9 := blk_grown HUe.out.hx hg9 (Kd.R_ne HUe.out.row HUe.out.hx (by decide))
                      have x9 : w9.cell? ⟨gx, 2, none⟩ = some vL := by rw [cell_of_row _ _ 2 _ 79 (0, 0) e9]; rfl
                      have f9 := frozen_of_row w9 gx 2 _ 79 e9
                      obtain ⟨A9, c9, hv9⟩ := Kd.R_slice hr9
                      generalize (sl ++ [_]).length = n9 at hv9
                      subst hv9
                      clear hr9 hb9 hg9 ho9 e9
                      refine hJ5.out _ _ trivial (fun _ => ?_)
                      try simp only [Act.put, List.setIfInBounds_toArray, List.set_cons_zero, List.set_cons_succ]
                      refine wpAnyH_take (i := 6) (oi := ⟨some 67, _, _, _, _, _⟩) (v := .pointer (some ⟨gx, 2, none⟩)) rfl (by kernel_rfl) (by kernel_rfl) (by kernel_rfl) (fun _ _ _ h => h) (.inl ⟨by rfl, fun W1 h1 => by go_simp⟩) trivial ?_
                      try simp only [Act.put, List.setIfInBounds_toArray, List.set_cons_zero, List.set_cons_succ]
                      refine wpAnyH_ready (rs := [7]) (by kernel_rfl) (by simp) (AllReadyH.cons rfl (fun J6 hJ6 => ?_) AllReadyH.nil)
                      go_simp
                      refine hJ6.out _ _ trivial (fun _ => ?_)
                      try simp only [Act.put, List.setIfInBounds_toArray, List.set_cons_zero, List.set_cons_succ]
                      refine wpAnyH_done (by kernel_rfl) ?_ _
                      clear x9 f9
                      go_wp2
                      go_roundw
                      case rel => exact ⟨j + 1, _, _, _, _, _, by go_num, by omega, ⟨inv_step HI.out hlt⟩, HU9⟩
                      case measure => simp [intOf]; omega
                · obtain rfl : j = N := by omega
                  have dj : decide ((j : Int) < (j : Int)) = false := decide_eq_false (by omega)
                  have xg0 : wr.cell? ⟨g, 0, none⟩ = some (.slice Ar l.length cr) := by rw [cell_of_row _ _ 0 _ 149 (0, 0) HGR.out]; rfl
                  go_wp2_with fail
                  refine (is_nil wr).mono ?_
                  rintro e w' ⟨rfl, rfl⟩
                  by_cases hl : l = []
                  · subst hl
                    have hcl : cs.length ≤ 9000 ∧ wtL cs ≤ 10000 := by have := HI.out.wt rfl; have := wtL_len cs; have := HN.out; omega
                    obtain ⟨AL, cL, rfl, hcr⟩ := HU.out.cr
                    have HEND := Aside0.mk (inv_end HI.out)
                    obtain ⟨X, hX⟩ : ∃ X : Stm, X = ⟨s1, s2, cs⟩ := ⟨_, rfl⟩
                    have HX := Aside0.mk hX
                    have HPUT := Aside0.mk (show Calls Try.prog 46 #[.agg #[.string s1, .string s2, .slice AL cs.length cL]] w' (TellsPutS w' (.int .i64) X) by
                      rw [hX]; exact put_calls ⟨s1, s2, cs⟩ AL cL cs.length sl w' hcr hcl.1 (fun _ => hcl.2))
                    rw [← hX] at HEND
                    clear hcr hX
                    have x0 : w'.cell? ⟨gx, 0, none⟩ = some (.string s1) := by rw [cell_of_row _ _ 0 _ 79 (0, 0) HU.out.hx]; rfl
                    have x1 : w'.cell? ⟨gx, 1, none⟩ = some (.string s2) := by rw [cell_of_row _ _ 1 _ 79 (0, 0) HU.out.hx]; rfl
                    have x2 : w'.cell? ⟨gx, 2, none⟩ = some (.slice AL cs.length cL) := by rw [cell_of_row _ _ 2 _ 79 (0, 0) HU.out.hx]; rfl
                    go_wp2_with fail
                    clear x0 x1 x2 xg xg0 hq
                    refine HPUT.out.mono ?_
                    rintro e w7 ⟨v7, rfl, hr7, hb7⟩
                    have H7 := Aside0.mk (HU.out.on hb7)
                    obtain ⟨A7, c7, rfl, hle7, hC7⟩ := Kd.R_reads hr7
                    have t1 := Kd.C_string (P := Try.prog) (c := c7) Try.underlying31 Try.underlying5 Try.underlying9 hC7
                    have t2 : (convert 31 9 (.slice A (k + 4) c)).run Try.prog w7 = .ok (.string (strOfNums L)) w7 := by
                      rw [← hk]
                      exact Kd.C_string (P := Try.prog) Try.underlying31 Try.underlying5 Try.underlying9 (Kd.C_below HC.out.1 H7.out.rd.below)
                    clear hr7 hb7 hle7 hC7 HU HPUT
                    cases hrb : StmI.rightB X with
                    | false =>
                      have HR := Aside0.mk hrb
                      rw [show codeS X = 2 by rw [codeS, hrb]; rfl]
                      generalize outS X = oX at *
                      have HNO := Aside0.mk (show NoS L from fun y hy hL => by
                        have := HEND.out y hy hL
                        rw [this] at hy
                        have h2 := rightB_true hy
                        rw [hrb] at h2
                        cases h2)
                      clear hrb t1 t2
                      go_wp2_with (refine wpList_store_same rfl 79 (.tmp 2) (.tmp 98) rfl w.heap.size Z79 rfl rfl 79 H7.out.h2 (i79 _ _ _) a86Z ?_)
                      refine bodyPost_ret (res_ct (p := 2) (q := 3) _ rfl rfl H7.out.h2 StmP.u79 rfl (i79 _ _ _)) rfl ?_
                      rw [HP.out]
                      exact ⟨H7.out.rd.below, .inr (.inr (.inl ⟨by rw [← HN.out]; omega, HOK2.out, HNO.out, rfl⟩))⟩
                    | true =>
                      have HR : Aside0 (RightS X) := ⟨by unfold StmI.rightB at hrb; simpa using hrb⟩
                      rw [show codeS X = 0 by rw [codeS, hrb]; rfl]
                      have eo : outS X = stmL X := by rw [outS, hrb]; rfl
                      rw [eo] at t1 ⊢
                      have hS := CatV.str_iff (stmL X) L (stmL_byt X) HC.out.2.1
                      clear hrb eo
                      generalize hlo : (stmL X).length = lo at *
                      generalize strOfNums (stmL X) = S5 at *
                      generalize strOfNums L = SL at *
                      by_cases heq : stmL X = L
                      · rw [decide_eq_true heq] at hS
                        have HEQ := Aside0.mk heq
                        clear heq hlo
                        have x0 : w7.cell? ⟨gx, 0, none⟩ = some (.string s1) := by rw [cell_of_row _ _ 0 _ 79 (0, 0) H7.out.hx]; rfl
                        have x1 : w7.cell? ⟨gx, 1, none⟩ = some (.string s2) := by rw [cell_of_row _ _ 1 _ 79 (0, 0) H7.out.hx]; rfl
                        have x2 : w7.cell? ⟨gx, 2, none⟩ = some (.slice AL cs.length cL) := by rw [cell_of_row _ _ 2 _ 79 (0, 0) H7.out.hx]; rfl
                        go_wp2_with (refine wpList_store_row rfl 79 (.tmp 2) (.tmp 99) rfl w.heap.size #[.string s1, .string s2, .slice AL cs.length cL] rfl rfl 79 Z79 H7.out.h2 (i79 _ _ _) rfl (a86 _ _ _ _ _) ?_)
                        refine bodyPost_ret (res_ct (p := 2) (q := 3) _ rfl rfl (setRow_heap _ w.heap.size _ #[.string s1, .string s2, .slice AL cs.length cL] 79 _ H7.out.h2) StmP.u79 rfl (i79 _ _ _)) rfl ?_
                        rw [HP.out]
                        refine ⟨below_setRow H7.out.rd.below (Nat.le_refl _) _, .inr (.inr (.inr ⟨X, .slice AL cs.length cL, HR.out, HEQ.out, by rw [HX.out]; rfl, ?_⟩))⟩
                        rw [HX.out]
                        exact H7.out.cell _
                      · rw [decide_eq_false heq] at hS
                        have HNO := Aside0.mk (show NoS L from fun y hy hL => by
                          have := HEND.out y hy hL
                          rw [this] at hL
                          exact heq hL)
                        clear heq hlo
                        go_wp2_with (refine wpList_store_same rfl 79 (.tmp 2) (.tmp 98) rfl w.heap.size Z79 rfl rfl 79 H7.out.h2 (i79 _ _ _) a86Z ?_)
                        refine bodyPost_ret (res_ct (p := 2) (q := 3) _ rfl rfl H7.out.h2 StmP.u79 rfl (i79 _ _ _)) rfl ?_
                        rw [HP.out]
                        exact ⟨H7.out.rd.below, .inr (.inr (.inl ⟨by rw [← HN.out]; omega, HOK2.out, HNO.out, rfl⟩))⟩
                  · have hlp := List.length_pos_iff.2 hl
                    have dl : decide ((0 : Int) < (l.length : Int)) = true := decide_eq_true (by omega)
                    have HNO := Aside0.mk (inv_rest HI.out hl)
                    clear hl
                    go_wp2_with (refine wpList_store_same rfl 79 (.tmp 2) (.tmp 83) rfl w.heap.size Z79 rfl rfl 79 HU.out.h2 (i79 _ _ _) a86Z ?_)
                    refine bodyPost_ret (res_ct (p := 2) (q := 3) _ rfl rfl HU.out.h2 StmP.u79 rfl (i79 _ _ _)) rfl ?_
                    rw [HP.out]
                    exact ⟨HU.out.rd.below, .inr (.inr (.inl ⟨by rw [← HN.out]; omega, HOK2.out, HNO.out, rfl⟩))⟩
          · refine wp_alloc79 (o := ⟨some 9, _, _, _, _, _⟩) rfl ?_
            have hb1 := below_alloc (Below.refl Wa0.heap.size Wa0) (.cells Z79 79)
            have HR2 := Aside0.mk (HR1.out.on hb1)
            have HZ2 := Aside0.mk (blk_below HZ1.out hb1)
            have HX2 := Aside0.mk (blk_new Wa0 (.cells Z79 79))
            have hz1 := hb1.size
            have hzg : Wa0.heap.size < (Wa0.alloc (.cells Z79 79)).heap.size := by simp
            have C12 := Aside0.mk (Kd.C_below C11.out hb1)
            refine hK4.out _ _ C12.out (fun hW => ?_)
            try simp only [Act.put, List.setIfInBounds_toArray, List.set_cons_zero, List.set_cons_succ]
            clear hb1
            generalize hWn1 : Wa0.alloc (.cells Z79 79) = Wa1 at *
            clear hWn1
            have hgx : g < Wa0.heap.size := by omega
            refine wpAnyH_ready (rs := [4]) (by kernel_rfl) (by simp) (AllReadyH.cons rfl (fun K7 hK7 => ?_) AllReadyH.nil)
            go_simp
            refine (textT_calls 63 (by decide) readText_63 w g l1 b1 Wa1 HR2.out).mono ?_
            rintro e Wa2 ⟨A49, c49, fr49, rfl, hc49, hle49, hrd, hkp⟩
            generalize (readText l1 63).1 = s2 at *
            generalize l1.drop (readText l1 63).2.1 = l2 at *
            generalize (b1 || decide ((readText l1 63).2.2 ≠ 0)) = b2 at *
            have HR3 := Aside0.mk hrd
            have HZ3 := Aside0.mk (hkp.blk HZ2.out (Ne.symm (Nat.ne_of_gt hs2)) (by simp))
            have HX3 := Aside0.mk (hkp.blk HX2.out (Nat.ne_of_gt hgx) (by simp))
            have C43 := Aside0.mk hc49
            have C13 := Aside0.mk (C8_moves C12.out fun ad e => hkp.2 _ (Nat.lt_of_lt_of_le (fr46 ad e).2 (by omega)) (by have := (fr46 ad e).1; omega) (by simp))
            have hz2 := hkp.1
            clear hrd hkp hc49 hle49
            refine hK7.out _ _ C13.out (fun hW => ?_)
            try simp only [Act.put, List.setIfInBounds_toArray, List.set_cons_zero, List.set_cons_succ]
            refine wpAnyH_mono (S' := fun w' => C8 w' A46 s1.size (bytesOf s1) ∧ C8 w' A49 s2.size (bytesOf s2)) (fun _ h => h.1) ?_
            refine wpAnyH_take (i := 5) (oi := ⟨some 50, _, _, _, _, _⟩) (v := .string s2) rfl (by kernel_rfl) (by kernel_rfl) (by kernel_rfl) (fun _ _ _ h => h) (.inl ⟨by rfl, fun W1 h1 => by (have x1 := Kd.C_string (c := c49) (P := Try.prog) Try.underlying31 Try.underlying5 Try.underlying9 h1.2; rw [str_bytes] at x1); go_simp⟩) ⟨C13.out, C43.out⟩ ?_
            try simp only [Act.put, List.setIfInBounds_toArray, List.set_cons_zero, List.set_cons_succ]
            refine wpAnyH_take (i := 6) (oi := ⟨some 51, _, _, _, _, _⟩) (v := .agg #[.string s1, .string s2, .slice none 0 0]) rfl (by kernel_rfl) (by kernel_rfl) (by kernel_rfl) (fun _ _ _ h => h) (.inl ⟨by rfl, fun W1 h1 => by go_simp⟩) ⟨C13.out, C43.out⟩ ?_
            try simp only [Act.put, List.setIfInBounds_toArray, List.set_cons_zero, List.set_cons_succ]
            refine wpAnyH_ready (rs := [8]) (by kernel_rfl) (by simp) (AllReadyH.cons rfl (fun K8 hK8 => ?_) AllReadyH.nil)
            refine wp_store_row (o := ⟨none, _, _, _, _, _⟩) 79 (.tmp 9) (.tmp 51) rfl Wa0.heap.size #[.string s1, .string s2, .slice none 0 0] rfl rfl 79 Z79 HX3.out (i79 _ _ _) rfl (a86 _ _ _ _ _) ?_
            have hz46 : ∀ ad, A46 = some ad → ad.block ≠ Wa0.heap.size := fun ad e => by have := fr46 ad e; omega
            have hz49 : ∀ ad, A49 = some ad → ad.block ≠ Wa0.heap.size := fun ad e => by have := fr49 ad e; omega
            refine hK8.out _ _ ⟨C8_moves C13.out fun ad e => setRow_other _ _ _ _ (hz46 ad e), C8_moves C43.out fun ad e => setRow_other _ _ _ _ (hz49 ad e)⟩ (fun hW => ?_)
            try simp only [Act.put, List.setIfInBounds_toArray, List.set_cons_zero, List.set_cons_succ]
            refine wpAnyH_done (by kernel_rfl) ?_ _
            have HU := Aside0.mk (⟨HR3.out.keep (below_setRow HR3.out.below (by omega) _) (setRow_other _ _ _ _ (by omega)), setRow_heap _ _ _ _ 79 _ HX3.out, (setRow_other _ _ _ _ (by omega)).trans HZ3.out, by omega, by omega, by omega, by omega, Kd.R_nil _ _ _ _ _, rfl, fun i hi => absurd hi (Nat.not_lt_zero _), fun i hi => absurd hi (Nat.not_lt_zero _)⟩ : IU w g Wa0.heap.size l2 b2 s1 s2 (.slice none 0 0) [] [] (Wa2.setRow Wa0.heap.size #[.string s1, .string s2, .slice none 0 0]))
            clear hz46 hz49 hW fr46 fr49 hgx
            generalize Wa0.heap.size = gx at *
            generalize Wa2.setRow gx #[.string s1, .string s2, .slice none 0 0] = Wz at *
            go_wp2_with fail
            refine (numT_calls 65536 (by decide) w g l2 b2 Wz HU.out.rd).mono ?_
            rintro e Wn ⟨rfl, hrd, hkp⟩
            have hnb := numR_le l2 HU.out.rd.byt
            have HU2 := Aside0.mk (HU.out.keep hrd hkp)
            clear hrd hkp HU
            generalize (if badN l2 65536 = true then 0 else (readShort l2).1) = nn at *
            generalize (if badN l2 65536 = true then l2 else l2.drop (readShort l2).2.1) = l3 at *
            generalize (b2 || badN l2 65536) = b3 at *
            obtain ⟨N, rfl⟩ : ∃ N : Nat, nn = (N : Int) := ⟨nn.toNat, by omega⟩
            rw [Int.toNat_natCast] at HST
            have hcon : Try.prog.concrete 41 = true := by kernel_rfl
            go_wp2
            go_loopw [54] (fun v54 wr => ∃ (j : Nat) (cs : List Chg) (sl : List Sl) (vL : Value) (l : List Int) (bad : Bool), v54 = .int .i64 (j : Int) ∧ j ≤ N ∧ Aside0 (Inv L s1 s2 N j cs l bad) ∧ Aside0 (IU w g gx l bad s1 s2 vL cs sl wr)) (fun v _ => N - (intOf v).toNat)
            case atStart => exact ⟨0, [], [], .slice none 0 0, l3, b3, rfl, Nat.zero_le _, HST, HU2⟩
            case round =>
              obtain ⟨j, cs, sl, vL, l, bad, rfl, hj, HI, HU⟩ := hrel
              clear HST HU2
              obtain ⟨Ar, cr, hCr, hlr, hgr⟩ := HU.out.rd.blk
              have HGR := Aside0.mk hgr
              clear hCr hlr hgr
              cases bad with
              | true =>
                have HNO := Aside0.mk (inv_bad HI.out)
                have xg : wr.cell? ⟨g, 1, none⟩ = some (.iface 41 (.int .i64 11)) := by rw [cell_of_row _ _ 1 _ 149 (0, 0) HGR.out]; rfl
                have hq : ∀ W : World, (binOp .neq 147 (.iface 41 (.int .i64 11)) .nilIface).run Try.prog W = .ok (.bool true) W := fun W => by kernel_rfl
                by_cases hlt : j < N
                · have dj : decide ((j : Int) < (N : Int)) = true := decide_eq_true (by omega)
                  go_wp2_with fail
                  refine (is_form wr).mono ?_
                  rintro e w' ⟨rfl, rfl⟩
                  go_wp2_with (refine wpList_store_same rfl 79 (.tmp 2) (.tmp 83) rfl w.heap.size Z79 rfl rfl 79 HU.out.h2 (i79 _ _ _) a86Z ?_)
                  refine bodyPost_ret (res_ct (p := 2) (q := 3) _ rfl rfl HU.out.h2 StmP.u79 rfl (i79 _ _ _)) rfl ?_
                  rw [HP.out]
                  exact ⟨HU.out.rd.below, .inr (.inr (.inl ⟨by rw [← HN.out]; omega, HOK2.out, HNO.out, rfl⟩))⟩
                · have dj : decide ((j : Int) < (N : Int)) = false := decide_eq_false (by omega)
                  go_wp2_with fail
                  refine (is_form wr).mono ?_
                  rintro e w' ⟨rfl, rfl⟩
                  go_wp2_with (refine wpList_store_same rfl 79 (.tmp 2) (.tmp 83) rfl w.heap.size Z79 rfl rfl 79 HU.out.h2 (i79 _ _ _) a86Z ?_)
                  refine bodyPost_ret (res_ct (p := 2) (q := 3) _ rfl rfl HU.out.h2 StmP.u79 rfl (i79 _ _ _)) rfl ?_
                  rw [HP.out]
                  exact ⟨HU.out.rd.below, .inr (.inr (.inl ⟨by rw [← HN.out]; omega, HOK2.out, HNO.out, rfl⟩))⟩
              | false =>
                have xg : wr.cell? ⟨g, 1, none⟩ = some .nilIface := by rw [cell_of_row _ _ 1 _ 149 (0, 0) HGR.out]; rfl
                have hq : ∀ W : World, (binOp .neq 147 .nilIface .nilIface).run Try.prog W = .ok (.bool false) W := fun W => by kernel_rfl
                by_cases hlt : j < N
                · have dj : decide ((j : Int) < (N : Int)) = true := decide_eq_true (by omega)
                  go_wp2
                  clear xg hq
                  have HUd := Aside0.mk (HU.out.on (below_drew (Below.refl wr.heap.size wr)))
                  clear HU
                  refine wp_region_held_drew (S := fun _ => True) (by kernel_rfl) trivial (fun _ => ?_)
                  generalize hWr : wr.drew = Wr at *
                  clear hWr
                  refine wpAnyH_take (i := 0) (oi := ⟨some 61, _, _, _, _, _⟩) (v := .pointer (some ⟨gx, 2, none⟩)) rfl (by kernel_rfl) (by kernel_rfl) (by kernel_rfl) (fun _ _ _ h => h) (.inl ⟨by rfl, fun W1 h1 => by go_simp⟩) trivial ?_
                  try simp only [Act.put, List.setIfInBounds_toArray, List.set_cons_zero, List.set_cons_succ]
                  refine wpAnyH_take (i := 2) (oi := ⟨some 63, _, _, _, _, _⟩) (v := .pointer (some ⟨g, 0, none⟩)) rfl (by kernel_rfl) (by kernel_rfl) (by kernel_rfl) (fun _ _ _ h => h) (.inl ⟨by rfl, fun W1 h1 => by go_simp⟩) trivial ?_
                  try simp only [Act.put, List.setIfInBounds_toArray, List.set_cons_zero, List.set_cons_succ]
                  refine wpAnyH_ready (rs := [1, 3]) (by kernel_rfl) (by simp) (AllReadyH.cons rfl (fun J1 hJ1 => ?_) (AllReadyH.cons rfl (fun J2 hJ2 => ?_) AllReadyH.nil))
                  · have xl : Wr.cell? ⟨gx, 2, none⟩ = some vL := by rw [cell_of_row _ _ 2 _ 79 (0, 0) HUd.out.hx]; rfl
                    go_simp
                    refine hJ1.out _ _ trivial (fun _ => ?_)
                    try simp only [Act.put, List.setIfInBounds_toArray, List.set_cons_zero, List.set_cons_succ]
                    clear xl
                    refine wpAnyH_ready (rs := [3]) (by kernel_rfl) (by simp) (AllReadyH.cons rfl (fun J3 hJ3 => ?_) AllReadyH.nil)
                    go_simp
                    refine (change_calls w g l false Wr HUd.out.rd).mono ?_
                    rintro e W1 ⟨A1, n1, c1, A2, n2, c2, A3, n3, c3, f1, f2, f3, rfl, hca, hrd, hkp⟩
                    have HUe := Aside0.mk (HUd.out.keep hrd hkp)
                    have HP1 := Aside0.mk (show Sl.ca W1 ⟨A1, n1, c1, A2, n2, c2, A3, n3, c3, (chgR l false).1.gone⟩ (chgR l false).1 from ⟨hca, rfl⟩)
                    have HF1 := Aside0.mk (show FarP w g gx vL.ownBlock W1 ⟨A1, n1, c1, A2, n2, c2, A3, n3, c3, (chgR l false).1.gone⟩ from fun ad e => by
                      have hb : Wr.heap.size ≤ ad.block ∧ ad.block < W1.heap.size := by
                        rcases e with e | e | e
                        · exact f1 ad e
                        · exact f2 ad e
                        · exact f3 ad e
                      have q1 := HUd.out.rd.lt
                      have q2 := blk_lt HUd.out.hx
                      have q3 := blk_lt HUd.out.h2
                      have q4 := Kd.R_lt HUd.out.row
                      refine ⟨by omega, by omega, by omega, fun he => ?_, hb.2⟩
                      have := q4 _ he.symm
                      omega)
                    clear hca hrd hkp f1 f2 f3
                    refine hJ3.out _ _ trivial (fun _ => ?_)
                    try simp only [Act.put, List.setIfInBounds_toArray, List.set_cons_zero, List.set_cons_succ]
                    refine wpAnyH_ready (rs := [4]) (by kernel_rfl) (by simp) (AllReadyH.cons rfl (fun J4 hJ4 => ?_) AllReadyH.nil)
                    refine wp_one_S (o := ⟨some 65, _, _, _, _, _⟩) (.tmp 64) rfl ⟨A1, n1, c1, A2, n2, c2, A3, n3, c3, (chgR l false).1.gone⟩ rfl ?_
                    refine hJ4.out _ _ trivial (fun _ => ?_)
                    try simp only [Act.put, List.setIfInBounds_toArray, List.set_cons_zero, List.set_cons_succ]
                    refine wpAnyH_ready (rs := [5]) (by kernel_rfl) (by simp) (AllReadyH.cons rfl (fun J5 hJ5 => ?_) AllReadyH.nil)
                    refine wp_append_S (o := ⟨some 66, _, _, _, _, _⟩) (w0 := w) w.heap.size (.tmp 62) (.tmp 65) rfl vL sl ⟨A1, n1, c1, A2, n2, c2, A3, n3, c3, (chgR l false).1.gone⟩ rfl rfl HUe.out.row HUe.out.rd.below HUe.out.rd.below.size (by have := HUe.out.len; have := HI.out.len; omega) ?_
                    intro v9 w9 hr9 hb9 hg9 ho9
                    have HU9 := Aside0.mk (HUe.out.push HP1.out HF1.out hr9 hb9 hg9 ho9)
                    have e9 := blk_grown HUe.out.hx hg9 (Kd.R_ne HUe.out.row HUe.out.hx (by decide))
                    have x9 : w9.cell? ⟨gx, 2, none⟩ = some vL := by rw [cell_of_row _ _ 2 _ 79 (0, 0) e9]; rfl
                    have f9 := frozen_of_row w9 gx 2 _ 79 e9
                    obtain ⟨A9, c9, hv9⟩ := Kd.R_slice hr9
                    generalize (sl ++ [_]).length = n9 at hv9
                    subst hv9
                    clear hr9 hb9 hg9 ho9 e9
                    refine hJ5.out _ _ trivial (fun _ => ?_)
                    try simp only [Act.put, List.setIfInBounds_toArray, List.set_cons_zero, List.set_cons_succ]
                    refine wpAnyH_take (i := 6) (oi := ⟨some 67, _, _, _, _, _⟩) (v := .pointer (some ⟨gx, 2, none⟩)) rfl (by kernel_rfl) (by kernel_rfl) (by kernel_rfl) (fun _ _ _ h => h) (.inl ⟨by rfl, fun W1 h1 => by go_simp⟩) trivial ?_
                    try simp only [Act.put, List.setIfInBounds_toArray, List.set_cons_zero, List.set_cons_succ]
                    refine wpAnyH_ready (rs := [7]) (by kernel_rfl) (by simp) (AllReadyH.cons rfl (fun J6 hJ6 => ?_) AllReadyH.nil)
                    go_simp
                    refine hJ6.out _ _ trivial (fun _ => ?_)
                    try simp only [Act.put, List.setIfInBounds_toArray, List.set_cons_zero, List.set_cons_succ]
                    refine wpAnyH_done (by kernel_rfl) ?_ _
                    clear x9 f9
                    go_wp2
                    go_roundw
                    case rel => exact ⟨j + 1, _, _, _, _, _, by go_num, by omega, ⟨inv_step HI.out hlt⟩, HU9⟩
                    case measure => simp [intOf]; omega
                  · go_simp
                    refine (change_calls w g l false Wr HUd.out.rd).mono ?_
                    rintro e W1 ⟨A1, n1, c1, A2, n2, c2, A3, n3, c3, f1, f2, f3, rfl, hca, hrd, hkp⟩
                    have HUe := Aside0.mk (HUd.out.keep hrd hkp)
                    have HP1 := Aside0.mk (show Sl.ca W1 ⟨A1, n1, c1, A2, n2, c2, A3, n3, c3, (chgR l false).1.gone⟩ (chgR l false).1 from ⟨hca, rfl⟩)
                    have HF1 := Aside0.mk (show FarP w g gx vL.ownBlock W1 ⟨A1, n1, c1, A2, n2, c2, A3, n3, c3, (chgR l false).1.gone⟩ from fun ad e => by
                      have hb : Wr.heap.size ≤ ad.block ∧ ad.block < W1.heap.size := by
                        rcases e with e | e | e
                        · exact f1 ad e
                        · exact f2 ad e
                        · exact f3 ad e
                      have q1 := HUd.out.rd.lt
                      have q2 := blk_lt HUd.out.hx
                      have q3 := blk_lt HUd.out.h2
                      have q4 := Kd.R_lt HUd.out.row
                      refine ⟨by omega, by omega, by omega, fun he => ?_, hb.2⟩
                      have := q4 _ he.symm
                      omega)
                    clear hca hrd hkp f1 f2 f3
                    refine hJ2.out _ _ trivial (fun _ => ?_)
                    try simp only [Act.put, List.setIfInBounds_toArray, List.set_cons_zero, List.set_cons_succ]
                    refine wpAnyH_ready (rs := [1, 4]) (by kernel_rfl) (by simp) (AllReadyH.cons rfl (fun J3 hJ3 => ?_) (AllReadyH.cons rfl (fun J4 hJ4 => ?_) AllReadyH.nil))
                    · have xl : W1.cell? ⟨gx, 2, none⟩ = some vL := by rw [cell_of_row _ _ 2 _ 79 (0, 0) HUe.out.hx]; rfl
                      go_simp
                      refine hJ3.out _ _ trivial (fun _ => ?_)
                      try simp only [Act.put, List.setIfInBounds_toArray, List.set_cons_zero, List.set_cons_succ]
                      clear xl
                      refine wpAnyH_ready (rs := [4]) (by kernel_rfl) (by simp) (AllReadyH.cons rfl (fun J7 hJ7 => ?_) AllReadyH.nil)
                      refine wp_one_S (o := ⟨some 65, _, _, _, _, _⟩) (.tmp 64) rfl ⟨A1, n1, c1, A2, n2, c2, A3, n3, c3, (chgR l false).1.gone⟩ rfl ?_
                      refine hJ7.out _ _ trivial (fun _ => ?_)
                      try simp only [Act.put, List.setIfInBounds_toArray, List.set_cons_zero, List.set_cons_succ]
                      refine wpAnyH_ready (rs := [5]) (by kernel_rfl) (by simp) (AllReadyH.cons rfl (fun J5 hJ5 => ?_) AllReadyH.nil)
                      refine wp_append_S (o := ⟨some 66, _, _, _, _, _⟩) (w0 := w) w.heap.size (.tmp 62) (.tmp 65) rfl vL sl ⟨A1, n1, c1, A2, n2, c2, A3, n3, c3, (chgR l false).1.gone⟩ rfl rfl HUe.out.row HUe.out.rd.below HUe.out.rd.below.size (by have := HUe.out.len; have := HI.out.len; omega) ?_
                      intro v9 w9 hr9 hb9 hg9 ho9
                      have HU9 := Aside0.mk (HUe.out.push HP1.out HF1.out hr9 hb9 hg9 ho9)
                      have e9 := blk_grown HUe.out.hx hg9 (Kd.R_ne HUe.out.row HUe.out.hx (by decide))
                      have x9 : w9.cell? ⟨gx, 2, none⟩ = some vL := by rw [cell_of_row _ _ 2 _ 79 (0, 0) e9]; rfl
                      have f9 := frozen_of_row w9 gx 2 _ 79 e9
                      obtain ⟨A9, c9, hv9⟩ := Kd.R_slice hr9
                      generalize (sl ++ [_]).length = n9 at hv9
                      subst hv9
                      clear hr9 hb9 hg9 ho9 e9
                      refine hJ5.out _ _ trivial (fun _ => ?_)
                      try simp only [Act.put, List.setIfInBounds_toArray, List.set_cons_zero, List.set_cons_succ]
                      refine wpAnyH_take (i := 6) (oi := ⟨some 67, _, _, _, _, _⟩) (v := .pointer (some ⟨gx, 2, none⟩)) rfl (by kernel_rfl) (by kernel_rfl) (by kernel_rfl) (fun _ _ _ h => h) (.inl ⟨by rfl, fun W1 h1 => by go_simp⟩) trivial ?_
                      try simp only [Act.put, List.setIfInBounds_toArray, List.set_cons_zero, List.set_cons_succ]
                      refine wpAnyH_ready (rs := [7]) (by kernel_rfl) (by simp) (AllReadyH.cons rfl (fun J6 hJ6 => ?_) AllReadyH.nil)
                      go_simp
                      refine hJ6.out _ _ trivial (fun _ => ?_)
                      try simp only [Act.put, List.setIfInBounds_toArray, List.set_cons_zero, List.set_cons_succ]
                      refine wpAnyH_done (by kernel_rfl) ?_ _
                      clear x9 f9
                      go_wp2
                      go_roundw
                      case rel => exact ⟨j + 1, _, _, _, _, _, by go_num, by omega, ⟨inv_step HI.out hlt⟩, HU9⟩
                      case measure => simp [intOf]; omega
                    · refine wp_one_S (o := ⟨some 65, _, _, _, _, _⟩) (.tmp 64) rfl ⟨A1, n1, c1, A2, n2, c2, A3, n3, c3, (chgR l false).1.gone⟩ rfl ?_
                      refine hJ4.out _ _ trivial (fun _ => ?_)
                      try simp only [Act.put, List.setIfInBounds_toArray, List.set_cons_zero, List.set_cons_succ]
                      refine wpAnyH_ready (rs := [1]) (by kernel_rfl) (by simp) (AllReadyH.cons rfl (fun J7 hJ7 => ?_) AllReadyH.nil)
                      have xl : (W1.alloc (.cells (encS ⟨A1, n1, c1, A2, n2, c2, A3, n3, c3, (chgR l false).1.gone⟩) 133)).cell? ⟨gx, 2, none⟩ = some vL := by rw [cell_of_row _ _ 2 _ 79 (0, 0) (blk_alloc HUe.out.hx _)]; rfl
                      go_simp
                      refine hJ7.out _ _ trivial (fun _ => ?_)
                      try simp only [Act.put, List.setIfInBounds_toArray, List.set_cons_zero, List.set_cons_succ]
                      clear xl
                      refine wpAnyH_ready (rs := [5]) (by kernel_rfl) (by simp) (AllReadyH.cons rfl (fun J5 hJ5 => ?_) AllReadyH.nil)
                      refine wp_append_S (o := ⟨some 66, _, _, _, _, _⟩) (w0 := w) w.heap.size (.tmp 62) (.tmp 65) rfl vL sl ⟨A1, n1, c1, A2, n2, c2, A3, n3, c3, (chgR l false).1.gone⟩ rfl rfl HUe.out.row HUe.out.rd.below HUe.out.rd.below.size (by have := HUe.out.len; have := HI.out.len; omega) ?_
                      intro v9 w9 hr9 hb9 hg9 ho9
                      have HU9 := Aside0.mk (HUe.out.push HP1.out HF1.out hr9 hb9 hg9 ho9)
                      have e9 := blk_grown HUe.out.hx hg9 (Kd.R_ne HUe.out.row HUe.out.hx (by decide))
                      have x9 : w9.cell? ⟨gx, 2, none⟩ = some vL := by rw [cell_of_row _ _ 2 _ 79 (0, 0) e9]; rfl
                      have f9 := frozen_of_row w9 gx 2 _ 79 e9
                      obtain ⟨A9, c9, hv9⟩ := Kd.R_slice hr9
                      generalize (sl ++ [_]).length = n9 at hv9
                      subst hv9
                      clear hr9 hb9 hg9 ho9 e9
                      refine hJ5.out _ _ trivial (fun _ => ?_)
                      try simp only [Act.put, List.setIfInBounds_toArray, List.set_cons_zero, List.set_cons_succ]
                      refine wpAnyH_take (i := 6) (oi := ⟨some 67, _, _, _, _, _⟩) (v := .pointer (some ⟨gx, 2, none⟩)) rfl (by kernel_rfl) (by kernel_rfl) (by kernel_rfl) (fun _ _ _ h => h) (.inl ⟨by rfl, fun W1 h1 => by go_simp⟩) trivial ?_
                      try simp only [Act.put, List.setIfInBounds_toArray, List.set_cons_zero, List.set_cons_succ]
                      refine wpAnyH_ready (rs := [7]) (by kernel_rfl) (by simp) (AllReadyH.cons rfl (fun J6 hJ6 => ?_) AllReadyH.nil)
                      go_simp
                      refine hJ6.out _ _ trivial (fun _ => ?_)
                      try simp only [Act.put, List.setIfInBounds_toArray, List.set_cons_zero, List.set_cons_succ]
                      refine wpAnyH_done (by kernel_rfl) ?_ _
                      clear x9 f9
                      go_wp2
                      go_roundw
                      case rel => exact ⟨j + 1, _, _, _, _, _, by go_num, by omega, ⟨inv_step HI.out hlt⟩, HU9⟩
                      case measure => simp [intOf]; omega
                · obtain rfl : j = N := by omega
                  have dj : decide ((j : Int) < (j : Int)) = false := decide_eq_false (by omega)
                  have xg0 : wr.cell? ⟨g, 0, none⟩ = some (.slice Ar l.length cr) := by rw [cell_of_row _ _ 0 _ 149 (0, 0) HGR.out]; rfl
                  go_wp2_with fail
                  refine (is_nil wr).mono ?_
                  rintro e w' ⟨rfl, rfl⟩
                  by_cases hl : l = []
                  · subst hl
                    have hcl : cs.length ≤ 9000 ∧ wtL cs ≤ 10000 := by have := HI.out.wt rfl; have := wtL_len cs; have := HN.out; omega
                    obtain ⟨AL, cL, rfl, hcr⟩ := HU.out.cr
                    have HEND := Aside0.mk (inv_end HI.out)
                    obtain ⟨X, hX⟩ : ∃ X : Stm, X = ⟨s1, s2, cs⟩ := ⟨_, rfl⟩
                    have HX := Aside0.mk hX
                    have HPUT := Aside0.mk (show Calls Try.prog 46 #[.agg #[.string s1, .string s2, .slice AL cs.length cL]] w' (TellsPutS w' (.int .i64) X) by
                      rw [hX]; exact put_calls ⟨s1, s2, cs⟩ AL cL cs.length sl w' hcr hcl.1 (fun _ => hcl.2))
                    rw [← hX] at HEND
                    clear hcr hX
                    have x0 : w'.cell? ⟨gx, 0, none⟩ = some (.string s1) := by rw [cell_of_row _ _ 0 _ 79 (0, 0) HU.out.hx]; rfl
                    have x1 : w'.cell? ⟨gx, 1, none⟩ = some (.string s2) := by rw [cell_of_row _ _ 1 _ 79 (0, 0) HU.out.hx]; rfl
                    have x2 : w'.cell? ⟨gx, 2, none⟩ = some (.slice AL cs.length cL) := by rw [cell_of_row _ _ 2 _ 79 (0, 0) HU.out.hx]; rfl
                    go_wp2_with fail
                    clear x0 x1 x2 xg xg0 hq
                    refine HPUT.out.mono ?_
                    rintro e w7 ⟨v7, rfl, hr7, hb7⟩
                    have H7 := Aside0.mk (HU.out.on hb7)
                    obtain ⟨A7, c7, rfl, hle7, hC7⟩ := Kd.R_reads hr7
                    have t1 := Kd.C_string (P := Try.prog) (c := c7) Try.underlying31 Try.underlying5 Try.underlying9 hC7
                    have t2 : (convert 31 9 (.slice A (k + 4) c)).run Try.prog w7 = .ok (.string (strOfNums L)) w7 := by
                      rw [← hk]
                      exact Kd.C_string (P := Try.prog) Try.underlying31 Try.underlying5 Try.underlying9 (Kd.C_below HC.out.1 H7.out.rd.below)
                    clear hr7 hb7 hle7 hC7 HU HPUT
                    cases hrb : StmI.rightB X with
                    | false =>
                      have HR := Aside0.mk hrb
                      rw [show codeS X = 2 by rw [codeS, hrb]; rfl]
                      generalize outS X = oX at *
                      have HNO := Aside0.mk (show NoS L from fun y hy hL => by
                        have := HEND.out y hy hL
                        rw [this] at hy
                        have h2 := rightB_true hy
                        rw [hrb] at h2
                        cases h2)
                      clear hrb t1 t2
                      go_wp2_with (refine wpList_store_same rfl 79 (.tmp 2) (.tmp 98) rfl w.heap.size Z79 rfl rfl 79 H7.out.h2 (i79 _ _ _) a86Z ?_)
                      refine bodyPost_ret (res_ct (p := 2) (q := 3) _ rfl rfl H7.out.h2 StmP.u79 rfl (i79 _ _ _)) rfl ?_
                      rw [HP.out]
                      exact ⟨H7.out.rd.below, .inr (.inr (.inl ⟨by rw [← HN.out]; omega, HOK2.out, HNO.out, rfl⟩))⟩
                    | true =>
                      have HR : Aside0 (RightS X) := ⟨by unfold StmI.rightB at hrb; simpa using hrb⟩
                      rw [show codeS X = 0 by rw [codeS, hrb]; rfl]
                      have eo : outS X = stmL X := by rw [outS, hrb]; rfl
                      rw [eo] at t1 ⊢
                      have hS := CatV.str_iff (stmL X) L (stmL_byt X) HC.out.2.1
                      clear hrb eo
                      generalize hlo : (stmL X).length = lo at *
                      generalize strOfNums (stmL X) = S5 at *
                      generalize strOfNums L = SL at *
                      by_cases heq : stmL X = L
                      · rw [decide_eq_true heq] at hS
                        have HEQ := Aside0.mk heq
                        clear heq hlo
                        have x0 : w7.cell? ⟨gx, 0, none⟩ = some (.string s1) := by rw [cell_of_row _ _ 0 _ 79 (0, 0) H7.out.hx]; rfl
                        have x1 : w7.cell? ⟨gx, 1, none⟩ = some (.string s2) := by rw [cell_of_row _ _ 1 _ 79 (0, 0) H7.out.hx]; rfl
                        have x2 : w7.cell? ⟨gx, 2, none⟩ = some (.slice AL cs.length cL) := by rw [cell_of_row _ _ 2 _ 79 (0, 0) H7.out.hx]; rfl
                        go_wp2_with (refine wpList_store_row rfl 79 (.tmp 2) (.tmp 99) rfl w.heap.size #[.string s1, .string s2, .slice AL cs.length cL] rfl rfl 79 Z79 H7.out.h2 (i79 _ _ _) rfl (a86 _ _ _ _ _) ?_)
                        refine bodyPost_ret (res_ct (p := 2) (q := 3) _ rfl rfl (setRow_heap _ w.heap.size _ #[.string s1, .string s2, .slice AL cs.length cL] 79 _ H7.out.h2) StmP.u79 rfl (i79 _ _ _)) rfl ?_
                        rw [HP.out]
                        refine ⟨below_setRow H7.out.rd.below (Nat.le_refl _) _, .inr (.inr (.inr ⟨X, .slice AL cs.length cL, HR.out, HEQ.out, by rw [HX.out]; rfl, ?_⟩))⟩
                        rw [HX.out]
                        exact H7.out.cell _
                      · rw [decide_eq_false heq] at hS
                        have HNO := Aside0.mk (show NoS L from fun y hy hL => by
                          have := HEND.out y hy hL
                          rw [this] at hL
                          exact heq hL)
                        clear heq hlo
                        go_wp2_with (refine wpList_store_same rfl 79 (.tmp 2) (.tmp 98) rfl w.heap.size Z79 rfl rfl 79 H7.out.h2 (i79 _ _ _) a86Z ?_)
                        refine bodyPost_ret (res_ct (p := 2) (q := 3) _ rfl rfl H7.out.h2 StmP.u79 rfl (i79 _ _ _)) rfl ?_
                        rw [HP.out]
                        exact ⟨H7.out.rd.below, .inr (.inr (.inl ⟨by rw [← HN.out]; omega, HOK2.out, HNO.out, rfl⟩))⟩
                  · have hlp := List.length_pos_iff.2 hl
                    have dl : decide ((0 : Int) < (l.length : Int)) = true := decide_eq_true (by omega)
                    have HNO := Aside0.mk (inv_rest HI.out hl)
                    clear hl
                    go_wp2_with (refine wpList_store_same rfl 79 (.tmp 2) (.tmp 83) rfl w.heap.size Z79 rfl rfl 79 HU.out.h2 (i79 _ _ _) a86Z ?_)
                    refine bodyPost_ret (res_ct (p := 2) (q := 3) _ rfl rfl HU.out.h2 StmP.u79 rfl (i79 _ _ _)) rfl ?_
                    rw [HP.out]
                    exact ⟨HU.out.rd.below, .inr (.inr (.inl ⟨by rw [← HN.out]; omega, HOK2.out, HNO.out, rfl⟩))⟩
        · refine wp_alloc79 (o := ⟨some 9, _, _, _, _, _⟩) rfl ?_
          have hb0 := below_alloc (Below.refl W0.heap.size W0) (.cells Z79 79)
          have HR1 := Aside0.mk (HR0.out.on hb0)
          have HZ1 := Aside0.mk (blk_below HZ0.out hb0)
          have HX1 := Aside0.mk (blk_new W0 (.cells Z79 79))
          have hz0 := hb0.size
          have hzg : W0.heap.size < (W0.alloc (.cells Z79 79)).heap.size := by simp
          refine hK2.out _ _ trivial (fun hW => ?_)
          try simp only [Act.put, List.setIfInBounds_toArray, List.set_cons_zero, List.set_cons_succ]
          clear hb0
          generalize hWn0 : W0.alloc (.cells Z79 79) = Wa0 at *
          clear hWn0
          have hgx : g < W0.heap.size := by omega
          refine wpAnyH_ready (rs := [1]) (by kernel_rfl) (by simp) (AllReadyH.cons rfl (fun K9 hK9 => ?_) AllReadyH.nil)
          go_simp
          refine (textT_calls 63 (by decide) readText_63 w g (rest0 L) false Wa0 HR1.out).mono ?_
          rintro e Wa1 ⟨A46, c46, fr46, rfl, hc46, hle46, hrd, hkp⟩
          generalize (readText (rest0 L) 63).1 = s1 at *
          generalize (rest0 L).drop (readText (rest0 L) 63).2.1 = l1 at *
          generalize (false || decide ((readText (rest0 L) 63).2.2 ≠ 0)) = b1 at *
          have HR2 := Aside0.mk hrd
          have HZ2 := Aside0.mk (hkp.blk HZ1.out (Ne.symm (Nat.ne_of_gt hs2)) (by simp))
          have HX2 := Aside0.mk (hkp.blk HX1.out (Nat.ne_of_gt hgx) (by simp))
          have C12 := Aside0.mk hc46
          have hz1 := hkp.1
          clear hrd hkp hc46 hle46
          refine hK9.out _ _ trivial (fun hW => ?_)
          try simp only [Act.put, List.setIfInBounds_toArray, List.set_cons_zero, List.set_cons_succ]
          refine wpAnyH_mono (S' := fun w' => C8 w' A46 s1.size (bytesOf s1)) (fun _ _ => trivial) ?_
          refine wpAnyH_take (i := 2) (oi := ⟨some 47, _, _, _, _, _⟩) (v := .string s1) rfl (by kernel_rfl) (by kernel_rfl) (by kernel_rfl) (fun _ _ _ h => h) (.inl ⟨by rfl, fun W1 h1 => by (have x1 := Kd.C_string (c := c46) (P := Try.prog) Try.underlying31 Try.underlying5 Try.underlying9 h1; rw [str_bytes] at x1); go_simp⟩) C12.out ?_
          try simp only [Act.put, List.setIfInBounds_toArray, List.set_cons_zero, List.set_cons_succ]
          refine wpAnyH_ready (rs := [4]) (by kernel_rfl) (by simp) (AllReadyH.cons rfl (fun K10 hK10 => ?_) AllReadyH.nil)
          go_simp
          refine (textT_calls 63 (by decide) readText_63 w g l1 b1 Wa1 HR2.out).mono ?_
          rintro e Wa2 ⟨A49, c49, fr49, rfl, hc49, hle49, hrd, hkp⟩
          generalize (readText l1 63).1 = s2 at *
          generalize l1.drop (readText l1 63).2.1 = l2 at *
          generalize (b1 || decide ((readText l1 63).2.2 ≠ 0)) = b2 at *
          have HR3 := Aside0.mk hrd
          have HZ3 := Aside0.mk (hkp.blk HZ2.out (Ne.symm (Nat.ne_of_gt hs2)) (by simp))
          have HX3 := Aside0.mk (hkp.blk HX2.out (Nat.ne_of_gt hgx) (by simp))
          have C43 := Aside0.mk hc49
          have C13 := Aside0.mk (C8_moves C12.out fun ad e => hkp.2 _ (Nat.lt_of_lt_of_le (fr46 ad e).2 (by omega)) (by have := (fr46 ad e).1; omega) (by simp))
          have hz2 := hkp.1
          clear hrd hkp hc49 hle49
          refine hK10.out _ _ C13.out (fun hW => ?_)
          try simp only [Act.put, List.setIfInBounds_toArray, List.set_cons_zero, List.set_cons_succ]
          refine wpAnyH_mono (S' := fun w' => C8 w' A46 s1.size (bytesOf s1) ∧ C8 w' A49 s2.size (bytesOf s2)) (fun _ h => h.1) ?_
          refine wpAnyH_take (i := 5) (oi := ⟨some 50, _, _, _, _, _⟩) (v := .string s2) rfl (by kernel_rfl) (by kernel_rfl) (by kernel_rfl) (fun _ _ _ h => h) (.inl ⟨by rfl, fun W1 h1 => by (have x1 := Kd.C_string (c := c49) (P := Try.prog) Try.underlying31 Try.underlying5 Try.underlying9 h1.2; rw [str_bytes] at x1); go_simp⟩) ⟨C13.out, C43.out⟩ ?_
          try simp only [Act.put, List.setIfInBounds_toArray, List.set_cons_zero, List.set_cons_succ]
          refine wpAnyH_take (i := 6) (oi := ⟨some 51, _, _, _, _, _⟩) (v := .agg #[.string s1, .string s2, .slice none 0 0]) rfl (by kernel_rfl) (by kernel_rfl) (by kernel_rfl) (fun _ _ _ h => h) (.inl ⟨by rfl, fun W1 h1 => by go_simp⟩) ⟨C13.out, C43.out⟩ ?_
          try simp only [Act.put, List.setIfInBounds_toArray, List.set_cons_zero, List.set_cons_succ]
          refine wpAnyH_ready (rs := [8]) (by kernel_rfl) (by simp) (AllReadyH.cons rfl (fun K11 hK11 => ?_) AllReadyH.nil)
          refine wp_store_row (o := ⟨none, _, _, _, _, _⟩) 79 (.tmp 9) (.tmp 51) rfl W0.heap.size #[.string s1, .string s2, .slice none 0 0] rfl rfl 79 Z79 HX3.out (i79 _ _ _) rfl (a86 _ _ _ _ _) ?_
          have hz46 : ∀ ad, A46 = some ad → ad.block ≠ W0.heap.size := fun ad e => by have := fr46 ad e; omega
          have hz49 : ∀ ad, A49 = some ad → ad.block ≠ W0.heap.size := fun ad e => by have := fr49 ad e; omega
          refine hK11.out _ _ ⟨C8_moves C13.out fun ad e => setRow_other _ _ _ _ (hz46 ad e), C8_moves C43.out fun ad e => setRow_other _ _ _ _ (hz49 ad e)⟩ (fun hW => ?_)
          try simp only [Act.put, List.setIfInBounds_toArray, List.set_cons_zero, List.set_cons_succ]
          refine wpAnyH_done (by kernel_rfl) ?_ _
          have HU := Aside0.mk (⟨HR3.out.keep (below_setRow HR3.out.below (by omega) _) (setRow_other _ _ _ _ (by omega)), setRow_heap _ _ _ _ 79 _ HX3.out, (setRow_other _ _ _ _ (by omega)).trans HZ3.out, by omega, by omega, by omega, by omega, Kd.R_nil _ _ _ _ _, rfl, fun i hi => absurd hi (Nat.not_lt_zero _), fun i hi => absurd hi (Nat.not_lt_zero _)⟩ : IU w g W0.heap.size l2 b2 s1 s2 (.slice none 0 0) [] [] (Wa2.setRow W0.heap.size #[.string s1, .string s2, .slice none 0 0]))
          clear hz46 hz49 hW fr46 fr49 hgx
          generalize W0.heap.size = gx at *
          generalize Wa2.setRow gx #[.string s1, .string s2, .slice none 0 0] = Wz at *
          go_wp2_with fail
          refine (numT_calls 65536 (by decide) w g l2 b2 Wz HU.out.rd).mono ?_
          rintro e Wn ⟨rfl, hrd, hkp⟩
          have hnb := numR_le l2 HU.out.rd.byt
          have HU2 := Aside0.mk (HU.out.keep hrd hkp)
          clear hrd hkp HU
          generalize (if badN l2 65536 = true then 0 else (readShort l2).1) = nn at *
          generalize (if badN l2 65536 = true then l2 else l2.drop (readShort l2).2.1) = l3 at *
          generalize (b2 || badN l2 65536) = b3 at *
          obtain ⟨N, rfl⟩ : ∃ N : Nat, nn = (N : Int) := ⟨nn.toNat, by omega⟩
          rw [Int.toNat_natCast] at HST
          have hcon : Try.prog.concrete 41 = true := by kernel_rfl
          go_wp2
          go_loopw [54] (fun v54 wr => ∃ (j : Nat) (cs : List Chg) (sl : List Sl) (vL : Value) (l : List Int) (bad : Bool), v54 = .int .i64 (j : Int) ∧ j ≤ N ∧ Aside0 (Inv L s1 s2 N j cs l bad) ∧ Aside0 (IU w g gx l bad s1 s2 vL cs sl wr)) (fun v _ => N - (intOf v).toNat)
          case atStart => exact ⟨0, [], [], .slice none 0 0, l3, b3, rfl, Nat.zero_le _, HST, HU2⟩
          case round =>
            obtain ⟨j, cs, sl, vL, l, bad, rfl, hj, HI, HU⟩ := hrel
            clear HST HU2
            obtain ⟨Ar, cr, hCr, hlr, hgr⟩ := HU.out.rd.blk
            have HGR := Aside0.mk hgr
            clear hCr hlr hgr
            cases bad with
            | true =>
              have HNO := Aside0.mk (inv_bad HI.out)
              have xg : wr.cell? ⟨g, 1, none⟩ = some (.iface 41 (.int .i64 11)) := by rw [cell_of_row _ _ 1 _ 149 (0, 0) HGR.out]; rfl
              have hq : ∀ W : World, (binOp .neq 147 (.iface 41 (.int .i64 11)) .nilIface).run Try.prog W = .ok (.bool true) W := fun W => by kernel_rfl
              by_cases hlt : j < N
              · have dj : decide ((j : Int) < (N : Int)) = true := decide_eq_true (by omega)
                go_wp2_with fail
                refine (is_form wr).mono ?_
                rintro e w' ⟨rfl, rfl⟩
                go_wp2_with (refine wpList_store_same rfl 79 (.tmp 2) (.tmp 83) rfl w.heap.size Z79 rfl rfl 79 HU.out.h2 (i79 _ _ _) a86Z ?_)
                refine bodyPost_ret (res_ct (p := 2) (q := 3) _ rfl rfl HU.out.h2 StmP.u79 rfl (i79 _ _ _)) rfl ?_
                rw [HP.out]
                exact ⟨HU.out.rd.below, .inr (.inr (.inl ⟨by rw [← HN.out]; omega, HOK2.out, HNO.out, rfl⟩))⟩
              · have dj : decide ((j : Int) < (N : Int)) = false := decide_eq_false (by omega)
                go_wp2_with fail
                refine (is_form wr).mono ?_
                rintro e w' ⟨rfl, rfl⟩
                go_wp2_with (refine wpList_store_same rfl 79 (.tmp 2) (.tmp 83) rfl w.heap.size Z79 rfl rfl 79 HU.out.h2 (i79 _ _ _) a86Z ?_)
                refine bodyPost_ret (res_ct (p := 2) (q := 3) _ rfl rfl HU.out.h2 StmP.u79 rfl (i79 _ _ _)) rfl ?_
                rw [HP.out]
                exact ⟨HU.out.rd.below, .inr (.inr (.inl ⟨by rw [← HN.out]; omega, HOK2.out, HNO.out, rfl⟩))⟩
            | false =>
              have xg : wr.cell? ⟨g, 1, none⟩ = some .nilIface := by rw [cell_of_row _ _ 1 _ 149 (0, 0) HGR.out]; rfl
              have hq : ∀ W : World, (binOp .neq 147 .nilIface .nilIface).run Try.prog W = .ok (.bool false) W := fun W => by kernel_rfl
              by_cases hlt : j < N
              · have dj : decide ((j : Int) < (N : Int)) = true := decide_eq_true (by omega)
                go_wp2
                clear xg hq
                have HUd := Aside0.mk (HU.out.on (below_drew (Below.refl wr.heap.size wr)))
                clear HU
                refine wp_region_held_drew (S := fun _ => True) (by kernel_rfl) trivial (fun _ => ?_)
                generalize hWr : wr.drew = Wr at *
                clear hWr
                refine wpAnyH_take (i := 0) (oi := ⟨some 61, _, _, _, _, _⟩) (v := .pointer (some ⟨gx, 2, none⟩)) rfl (by kernel_rfl) (by kernel_rfl) (by kernel_rfl) (fun _ _ _ h => h) (.inl ⟨by rfl, fun W1 h1 => by go_simp⟩) trivial ?_
                try simp only [Act.put, List.setIfInBounds_toArray, List.set_cons_zero, List.set_cons_succ]
                refine wpAnyH_take (i := 2) (oi := ⟨some 63, _, _, _, _, _⟩) (v := .pointer (some ⟨g, 0, none⟩)) rfl (by kernel_rfl) (by kernel_rfl) (by kernel_rfl) (fun _ _ _ h => h) (.inl ⟨by rfl, fun W1 h1 => by go_simp⟩) trivial ?_
                try simp only [Act.put, List.setIfInBounds_toArray, List.set_cons_zero, List.set_cons_succ]
                refine wpAnyH_ready (rs := [1, 3]) (by kernel_rfl) (by simp) (AllReadyH.cons rfl (fun J1 hJ1 => ?_) (AllReadyH.cons rfl (fun J2 hJ2 => ?_) AllReadyH.nil))
                · have xl : Wr.cell? ⟨gx, 2, none⟩ = some vL := by rw [cell_of_row _ _ 2 _ 79 (0, 0) HUd.out.hx]; rfl
                  go_simp
                  refine hJ1.out _ _ trivial (fun _ => ?_)
                  try simp only [Act.put, List.setIfInBounds_toArray, List.set_cons_zero, List.set_cons_succ]
                  clear xl
                  refine wpAnyH_ready (rs := [3]) (by kernel_rfl) (by simp) (AllReadyH.cons rfl (fun J3 hJ3 => ?_) AllReadyH.nil)
                  go_simp
                  refine (change_calls w g l false Wr HUd.out.rd).mono ?_
                  rintro e W1 ⟨A1, n1, c1, A2, n2, c2, A3, n3, c3, f1, f2, f3, rfl, hca, hrd, hkp⟩
                  have HUe := Aside0.mk (HUd.out.keep hrd hkp)
                  have HP1 := Aside0.mk (show Sl.ca W1 ⟨A1, n1, c1, A2, n2, c2, A3, n3, c3, (chgR l false).1.gone⟩ (chgR l false).1 from ⟨hca, rfl⟩)
                  have HF1 := Aside0.mk (show FarP w g gx vL.ownBlock W1 ⟨A1, n1, c1, A2, n2, c2, A3, n3, c3, (chgR l false).1.gone⟩ from fun ad e => by
                    have hb : Wr.heap.size ≤ ad.block ∧ ad.block < W1.heap.size := by
                      rcases e with e | e | e
                      · exact f1 ad e
                      · exact f2 ad e
                      · exact f3 ad e
                    have q1 := HUd.out.rd.lt
                    have q2 := blk_lt HUd.out.hx
                    have q3 := blk_lt HUd.out.h2
                    have q4 := Kd.R_lt HUd.out.row
                    refine ⟨by omega, by omega, by omega, fun he => ?_, hb.2⟩
                    have := q4 _ he.symm
                    omega)
                  clear hca hrd hkp f1 f2 f3
                  refine hJ3.out _ _ trivial (fun _ => ?_)
                  try simp only [Act.put, List.setIfInBounds_toArray, List.set_cons_zero, List.set_cons_succ]
                  refine wpAnyH_ready (rs := [4]) (by kernel_rfl) (by simp) (AllReadyH.cons rfl (fun J4 hJ4 => ?_) AllReadyH.nil)
                  refine wp_one_S (o := ⟨some 65, _, _, _, _, _⟩) (.tmp 64) rfl ⟨A1, n1, c1, A2, n2, c2, A3, n3, c3, (chgR l false).1.gone⟩ rfl ?_
                  refine hJ4.out _ _ trivial (fun _ => ?_)
                  try simp only [Act.put, List.setIfInBounds_toArray, List.set_cons_zero, List.set_cons_succ]
                  refine wpAnyH_ready (rs := [5]) (by kernel_rfl) (by simp) (AllReadyH.cons rfl (fun J5 hJ5 => ?_) AllReadyH.nil)
                  refine wp_append_S (o := ⟨some 66, _, _, _, _, _⟩) (w0 := w) w.heap.size (.tmp 62) (.tmp 65) rfl vL sl ⟨A1, n1, c1, A2, n2, c2, A3, n3, c3, (chgR l false).1.gone⟩ rfl rfl HUe.out.row HUe.out.rd.below HUe.out.rd.below.size (by have := HUe.out.len; have := HI.out.len; omega) ?_
                  intro v9 w9 hr9 hb9 hg9 ho9
                  have HU9 := Aside0.mk (HUe.out.push HP1.out HF1.out hr9 hb9 hg9 ho9)
                  have e9 := blk_grown HUe.out.hx hg9 (Kd.R_ne HUe.out.row HUe.out.hx (by decide))
                  have x9 : w9.cell? ⟨gx, 2, none⟩ = some vL := by rw [cell_of_row _ _ 2 _ 79 (0, 0) e9]; rfl
                  have f9 := frozen_of_row w9 gx 2 _ 79 e9
                  obtain ⟨A9, c9, hv9⟩ := Kd.R_slice hr9
                  generalize (sl ++ [_]).length = n9 at hv9
                  subst hv9
                  clear hr9 hb9 hg9 ho9 e9
                  refine hJ5.out _ _ trivial (fun _ => ?_)
                  try simp only [Act.put, List.setIfInBounds_toArray, List.set_cons_zero, List.set_cons_succ]
                  refine wpAnyH_take (i := 6) (oi := ⟨some 67, _, _, _, _, _⟩) (v := .pointer (some ⟨gx, 2, none⟩)) rfl (by kernel_rfl) (by kernel_rfl) (by kernel_rfl) (fun _ _ _ h => h) (.inl ⟨by rfl, fun W1 h1 => by go_simp⟩) trivial ?_
                  try simp only [Act.put, List.setIfInBounds_toArray, List.set_cons_zero, List.set_cons_succ]
                  refine wpAnyH_ready (rs := [7]) (by kernel_rfl) (by simp) (AllReadyH.cons rfl (fun J6 hJ6 => ?_) AllReadyH.nil)
                  go_simp
                  refine hJ6.out _ _ trivial (fun _ => ?_)
                  try simp only [Act.put, List.setIfInBounds_toArray, List.set_cons_zero, List.set_cons_succ]
                  refine wpAnyH_done (by kernel_rfl) ?_ _
                  clear x9 f9
                  go_wp2
                  go_roundw
                  case rel => exact ⟨j + 1, _, _, _, _, _, by go_num, by omega, ⟨inv_step HI.out hlt⟩, HU9⟩
                  case measure => simp [intOf]; omega
                · go_simp
                  refine (change_calls w g l false Wr HUd.out.rd).mono ?_
                  rintro e W1 ⟨A1, n1, c1, A2, n2, c2, A3, n3, c3, f1, f2, f3, rfl, hca, hrd, hkp⟩
                  have HUe := Aside0.mk (HUd.out.keep hrd hkp)
                  have HP1 := Aside0.mk (show Sl.ca W1 ⟨A1, n1, c1, A2, n2, c2, A3, n3, c3, (chgR l false).1.gone⟩ (chgR l false).1 from ⟨hca, rfl⟩)
                  have HF1 := Aside0.mk (show FarP w g gx vL.ownBlock W1 ⟨A1, n1, c1, A2, n2, c2, A3, n3, c3, (chgR l false).1.gone⟩ from fun ad e => by
                    have hb : Wr.heap.size ≤ ad.block ∧ ad.block < W1.heap.size := by
                      rcases e with e | e | e
                      · exact f1 ad e
                      · exact f2 ad e
                      · exact f3 ad e
                    have q1 := HUd.out.rd.lt
                    have q2 := blk_lt HUd.out.hx
                    have q3 := blk_lt HUd.out.h2
                    have q4 := Kd.R_lt HUd.out.row
                    refine ⟨by omega, by omega, by omega, fun he => ?_, hb.2⟩
                    have := q4 _ he.symm
                    omega)
                  clear hca hrd hkp f1 f2 f3
                  refine hJ2.out _ _ trivial (fun _ => ?_)
                  try simp only [Act.put, List.setIfInBounds_toArray, List.set_cons_zero, List.set_cons_succ]
                  refine wpAnyH_ready (rs := [1, 4]) (by kernel_rfl) (by simp) (AllReadyH.cons rfl (fun J3 hJ3 => ?_) (AllReadyH.cons rfl (fun J4 hJ4 => ?_) AllReadyH.nil))
                  · have xl : W1.cell? ⟨gx, 2, none⟩ = some vL := by rw [cell_of_row _ _ 2 _ 79 (0, 0) HUe.out.hx]; rfl
                    go_simp
                    refine hJ3.out _ _ trivial (fun _ => ?_)
                    try simp only [Act.put, List.setIfInBounds_toArray, List.set_cons_zero, List.set_cons_succ]
                    clear xl
                    refine wpAnyH_ready (rs := [4]) (by kernel_rfl) (by simp) (AllReadyH.cons rfl (fun J7 hJ7 => ?_) AllReadyH.nil)
                    refine wp_one_S (o := ⟨some 65, _, _, _, _, _⟩) (.tmp 64) rfl ⟨A1, n1, c1, A2, n2, c2, A3, n3, c3, (chgR l false).1.gone⟩ rfl ?_
                    refine hJ7.out _ _ trivial (fun _ => ?_)
                    try simp only [Act.put, List.setIfInBounds_toArray, List.set_cons_zero, List.set_cons_succ]
                    refine wpAnyH_ready (rs := [5]) (by kernel_rfl) (by simp) (AllReadyH.cons rfl (fun J5 hJ5 => ?_) AllReadyH.nil)
                    refine wp_append_S (o := ⟨some 66, _, _, _, _, _⟩) (w0 := w) w.heap.size (.tmp 62) (.tmp 65) rfl vL sl ⟨A1, n1, c1, A2, n2, c2, A3, n3, c3, (chgR l false).1.gone⟩ rfl rfl HUe.out.row HUe.out.rd.below HUe.out.rd.below.size (by have := HUe.out.len; have := HI.out.len; omega) ?_
                    intro v9 w9 hr9 hb9 hg9 ho9
                    have HU9 := Aside0.mk (HUe.out.push HP1.out HF1.out hr9 hb9 hg9 ho9)
                    have e9 := blk_grown HUe.out.hx hg9 (Kd.R_ne HUe.out.row HUe.out.hx (by decide))
                    have x9 : w9.cell? ⟨gx, 2, none⟩ = some vL := by rw [cell_of_row _ _ 2 _ 79 (0, 0) e9]; rfl
                    have f9 := frozen_of_row w9 gx 2 _ 79 e9
                    obtain ⟨A9, c9, hv9⟩ := Kd.R_slice hr9
                    generalize (sl ++ [_]).length = n9 at hv9
                    subst hv9
                    clear hr9 hb9 hg9 ho9 e9
                    refine hJ5.out _ _ trivial (fun _ => ?_)
                    try simp only [Act.put, List.setIfInBounds_toArray, List.set_cons_zero, List.set_cons_succ]
                    refine wpAnyH_take (i := 6) (oi := ⟨some 67, _, _, _, _, _⟩) (v := .pointer (some ⟨gx, 2, none⟩)) rfl (by kernel_rfl) (by kernel_rfl) (by kernel_rfl) (fun _ _ _ h => h) (.inl ⟨by rfl, fun W1 h1 => by go_simp⟩) trivial ?_
                    try simp only [Act.put, List.setIfInBounds_toArray, List.set_cons_zero, List.set_cons_succ]
                    refine wpAnyH_ready (rs := [7]) (by kernel_rfl) (by simp) (AllReadyH.cons rfl (fun J6 hJ6 => ?_) AllReadyH.nil)
                    go_simp
                    refine hJ6.out _ _ trivial (fun _ => ?_)
                    try simp only [Act.put, List.setIfInBounds_toArray, List.set_cons_zero, List.set_cons_succ]
                    refine wpAnyH_done (by kernel_rfl) ?_ _
                    clear x9 f9
                    go_wp2
                    go_roundw
                    case rel => exact ⟨j + 1, _, _, _, _, _, by go_num, by omega, ⟨inv_step HI.out hlt⟩, HU9⟩
                    case measure => simp [intOf]; omega
                  · refine wp_one_S (o := ⟨some 65, _, _, _, _, _⟩) (.tmp 64) rfl ⟨A1, n1, c1, A2, n2, c2, A3, n3, c3, (chgR l false).1.gone⟩ rfl ?_
                    refine hJ4.out _ _ trivial (fun _ => ?_)
                    try simp only [Act.put, List.setIfInBounds_toArray, List.set_cons_zero, List.set_cons_succ]
                    refine wpAnyH_ready (rs := [1]) (by kernel_rfl) (by simp) (AllReadyH.cons rfl (fun J7 hJ7 => ?_) AllReadyH.nil)
                    have xl : (W1.alloc (.cells (encS ⟨A1, n1, c1, A2, n2, c2, A3, n3, c3, (chgR l false).1.gone⟩) 133)).cell? ⟨gx, 2, none⟩ = some vL := by rw [cell_of_row _ _ 2 _ 79 (0, 0) (blk_alloc HUe.out.hx _)]; rfl
                    go_simp
                    refine hJ7.out _ _ trivial (fun _ => ?_)
                    try simp only [Act.put, List.setIfInBounds_toArray, List.set_cons_zero, List.set_cons_succ]
                    clear xl
                    refine wpAnyH_ready (rs := [5]) (by kernel_rfl) (by simp) (AllReadyH.cons rfl (fun J5 hJ5 => ?_) AllReadyH.nil)
                    refine wp_append_S (o := ⟨some 66, _, _, _, _, _⟩) (w0 := w) w.heap.size (.tmp 62) (.tmp 65) rfl vL sl ⟨A1, n1, c1, A2, n2, c2, A3, n3, c3, (chgR l false).1.gone⟩ rfl rfl HUe.out.row HUe.out.rd.below HUe.out.rd.below.size (by have := HUe.out.len; have := HI.out.len; omega) ?_
                    intro v9 w9 hr9 hb9 hg9 ho9
                    have HU9 := Aside0.mk (HUe.out.push HP1.out HF1.out hr9 hb9 hg9 ho9)
                    have e9 := blk_grown HUe.out.hx hg9 (Kd.R_ne HUe.out.row HUe.out.hx (by decide))
                    have x9 : w9.cell? ⟨gx, 2, none⟩ = some vL := by rw [cell_of_row _ _ 2 _ 79 (0, 0) e9]; rfl
                    have f9 := frozen_of_row w9 gx 2 _ 79 e9
                    obtain ⟨A9, c9, hv9⟩ := Kd.R_slice hr9
                    generalize (sl ++ [_]).length = n9 at hv9
                    subst hv9
                    clear hr9 hb9 hg9 ho9 e9
                    refine hJ5.out _ _ trivial (fun _ => ?_)
                    try simp only [Act.put, List.setIfInBounds_toArray, List.set_cons_zero, List.set_cons_succ]
                    refine wpAnyH_take (i := 6) (oi := ⟨some 67, _, _, _, _, _⟩) (v := .pointer (some ⟨gx, 2, none⟩)) rfl (by kernel_rfl) (by kernel_rfl) (by kernel_rfl) (fun _ _ _ h => h) (.inl ⟨by rfl, fun W1 h1 => by go_simp⟩) trivial ?_
                    try simp only [Act.put, List.setIfInBounds_toArray, List.set_cons_zero, List.set_cons_succ]
                    refine wpAnyH_ready (rs := [7]) (by kernel_rfl) (by simp) (AllReadyH.cons rfl (fun J6 hJ6 => ?_) AllReadyH.nil)
                    go_simp
                    refine hJ6.out _ _ trivial (fun _ => ?_)
                    try simp only [Act.put, List.setIfInBounds_toArray, List.set_cons_zero, List.set_cons_succ]
                    refine wpAnyH_done (by kernel_rfl) ?_ _
                    clear x9 f9
                    go_wp2
                    go_roundw
                    case rel => exact ⟨j + 1, _, _, _, _, _, by go_num, by omega, ⟨inv_step HI.out hlt⟩, HU9⟩
                    case measure => simp [intOf]; omega
              · obtain rfl : j = N := by omega
                have dj : decide ((j : Int) < (j : Int)) = false := decide_eq_false (by omega)
                have xg0 : wr.cell? ⟨g, 0, none⟩ = some (.slice Ar l.length cr) := by rw [cell_of_row _ _ 0 _ 149 (0, 0) HGR.out]; rfl
                go_wp2_with fail
                refine (is_nil wr).mono ?_
                rintro e w' ⟨rfl, rfl⟩
                by_cases hl : l = []
                · subst hl
                  have hcl : cs.length ≤ 9000 ∧ wtL cs ≤ 10000 := by have := HI.out.wt rfl; have := wtL_len cs; have := HN.out; omega
                  obtain ⟨AL, cL, rfl, hcr⟩ := HU.out.cr
                  have HEND := Aside0.mk (inv_end HI.out)
                  obtain ⟨X, hX⟩ : ∃ X : Stm, X = ⟨s1, s2, cs⟩ := ⟨_, rfl⟩
                  have HX := Aside0.mk hX
                  have HPUT := Aside0.mk (show Calls Try.prog 46 #[.agg #[.string s1, .string s2, .slice AL cs.length cL]] w' (TellsPutS w' (.int .i64) X) by
                    rw [hX]; exact put_calls ⟨s1, s2, cs⟩ AL cL cs.length sl w' hcr hcl.1 (fun _ => hcl.2))
                  rw [← hX] at HEND
                  clear hcr hX
                  have x0 : w'.cell? ⟨gx, 0, none⟩ = some (.string s1) := by rw [cell_of_row _ _ 0 _ 79 (0, 0) HU.out.hx]; rfl
                  have x1 : w'.cell? ⟨gx, 1, none⟩ = some (.string s2) := by rw [cell_of_row _ _ 1 _ 79 (0, 0) HU.out.hx]; rfl
                  have x2 : w'.cell? ⟨gx, 2, none⟩ = some (.slice AL cs.length cL) := by rw [cell_of_row _ _ 2 _ 79 (0, 0) HU.out.hx]; rfl
                  go_wp2_with fail
                  clear x0 x1 x2 xg xg0 hq
                  refine HPUT.out.mono ?_
                  rintro e w7 ⟨v7, rfl, hr7, hb7⟩
                  have H7 := Aside0.mk (HU.out.on hb7)
                  obtain ⟨A7, c7, rfl, hle7, hC7⟩ := Kd.R_reads hr7
                  have t1 := Kd.C_string (P := Try.prog) (c := c7) Try.underlying31 Try.underlying5 Try.underlying9 hC7
                  have t2 : (convert 31 9 (.slice A (k + 4) c)).run Try.prog w7 = .ok (.string (strOfNums L)) w7 := by
                    rw [← hk]
                    exact Kd.C_string (P := Try.prog) Try.underlying31 Try.underlying5 Try.underlying9 (Kd.C_below HC.out.1 H7.out.rd.below)
                  clear hr7 hb7 hle7 hC7 HU HPUT
                  cases hrb : StmI.rightB X with
                  | false =>
                    have HR := Aside0.mk hrb
                    rw [show codeS X = 2 by rw [codeS, hrb]; rfl]
                    generalize outS X = oX at *
                    have HNO := Aside0.mk (show NoS L from fun y hy hL => by
                      have := HEND.out y hy hL
                      rw [this] at hy
                      have h2 := rightB_true hy
                      rw [hrb] at h2
                      cases h2)
                    clear hrb t1 t2
                    go_wp2_with (refine wpList_store_same rfl 79 (.tmp 2) (.tmp 98) rfl w.heap.size Z79 rfl rfl 79 H7.out.h2 (i79 _ _ _) a86Z ?_)
                    refine bodyPost_ret (res_ct (p := 2) (q := 3) _ rfl rfl H7.out.h2 StmP.u79 rfl (i79 _ _ _)) rfl ?_
                    rw [HP.out]
                    exact ⟨H7.out.rd.below, .inr (.inr (.inl ⟨by rw [← HN.out]; omega, HOK2.out, HNO.out, rfl⟩))⟩
                  | true =>
                    have HR : Aside0 (RightS X) := ⟨by unfold StmI.rightB at hrb; simpa using hrb⟩
                    rw [show codeS X = 0 by rw [codeS, hrb]; rfl]
                    have eo : outS X = stmL X := by rw [outS, hrb]; rfl
                    rw [eo] at t1 ⊢
                    have hS := CatV.str_iff (stmL X) L (stmL_byt X) HC.out.2.1
                    clear hrb eo
                    generalize hlo : (stmL X).length = lo at *
                    generalize strOfNums (stmL X) = S5 at *
                    generalize strOfNums L = SL at *
                    by_cases heq : stmL X = L
                    · rw [decide_eq_true heq] at hS
                      have HEQ := Aside0.mk heq
                      clear heq hlo
                      have x0 : w7.cell? ⟨gx, 0, none⟩ = some (.string s1) := by rw [cell_of_row _ _ 0 _ 79 (0, 0) H7.out.hx]; rfl
                      have x1 : w7.cell? ⟨gx, 1, none⟩ = some (.string s2) := by rw [cell_of_row _ _ 1 _ 79 (0, 0) H7.out.hx]; rfl
                      have x2 : w7.cell? ⟨gx, 2, none⟩ = some (.slice AL cs.length cL) := by rw [cell_of_row _ _ 2 _ 79 (0, 0) H7.out.hx]; rfl
                      go_wp2_with (refine wpList_store_row rfl 79 (.tmp 2) (.tmp 99) rfl w.heap.size #[.string s1, .string s2, .slice AL cs.length cL] rfl rfl 79 Z79 H7.out.h2 (i79 _ _ _) rfl (a86 _ _ _ _ _) ?_)
                      refine bodyPost_ret (res_ct (p := 2) (q := 3) _ rfl rfl (setRow_heap _ w.heap.size _ #[.string s1, .string s2, .slice AL cs.length cL] 79 _ H7.out.h2) StmP.u79 rfl (i79 _ _ _)) rfl ?_
                      rw [HP.out]
                      refine ⟨below_setRow H7.out.rd.below (Nat.le_refl _) _, .inr (.inr (.inr ⟨X, .slice AL cs.length cL, HR.out, HEQ.out, by rw [HX.out]; rfl, ?_⟩))⟩
                      rw [HX.out]
                      exact H7.out.cell _
                    · rw [decide_eq_false heq] at hS
                      have HNO := Aside0.mk (show NoS L from fun y hy hL => by
                        have := HEND.out y hy hL
                        rw [this] at hL
                        exact heq hL)
                      clear heq hlo
                      go_wp2_with (refine wpList_store_same rfl 79 (.tmp 2) (.tmp 98) rfl w.heap.size Z79 rfl rfl 79 H7.out.h2 (i79 _ _ _) a86Z ?_)
                      refine bodyPost_ret (res_ct (p := 2) (q := 3) _ rfl rfl H7.out.h2 StmP.u79 rfl (i79 _ _ _)) rfl ?_
                      rw [HP.out]
                      exact ⟨H7.out.rd.below, .inr (.inr (.inl ⟨by rw [← HN.out]; omega, HOK2.out, HNO.out, rfl⟩))⟩
                · have hlp := List.length_pos_iff.2 hl
                  have dl : decide ((0 : Int) < (l.length : Int)) = true := decide_eq_true (by omega)
                  have HNO := Aside0.mk (inv_rest HI.out hl)
                  clear hl
                  go_wp2_with (refine wpList_store_same rfl 79 (.tmp 2) (.tmp 83) rfl w.heap.size Z79 rfl rfl 79 HU.out.h2 (i79 _ _ _) a86Z ?_)
                  refine bodyPost_ret (res_ct (p := 2) (q := 3) _ rfl rfl HU.out.h2 StmP.u79 rfl (i79 _ _ _)) rfl ?_
                  rw [HP.out]
                  exact ⟨HU.out.rd.below, .inr (.inr (.inl ⟨by rw [← HN.out]; omega, HOK2.out, HNO.out, rfl⟩))⟩
end Go.Proofs.Ytfefpbnhpncmlaa.StmU
namespace Go.Proofs.Ytfefpbnhpncmlaa.StmX
open Go.RowKit Go.Proofs.Ytfefpbnhpncmlaa.EntL Go.Proofs.Ytfefpbnhpncmlaa.EntB Go.Proofs.Ytfefpbnhpncmlaa.EntC Go.Proofs.Ytfefpbnhpncmlaa.EntD Go.Proofs.Ytfefpbnhpncmlaa.EntE Go.Proofs.Ytfefpbnhpncmlaa.EntF Go.Proofs.Ytfefpbnhpncmlaa.CatR Go.Proofs.Ytfefpbnhpncmlaa.CatT Go.Proofs.Ytfefpbnhpncmlaa.CatU Go.Proofs.Ytfefpbnhpncmlaa.CatK Go.Proofs.Ytfefpbnhpncmlaa.CatS Go.Proofs.Ytfefpbnhpncmlaa.CatY Go.Proofs.Ytfefpbnhpncmlaa.RefG Go.Proofs.Ytfefpbnhpncmlaa.PtrB Go.Proofs.Ytfefpbnhpncmlaa.PtrG Go.Proofs.Ytfefpbnhpncmlaa.Agg Go.Proofs.Ytfefpbnhpncmlaa.B8 Go.Proofs.Ytfefpbnhpncmlaa.CodL Go.Proofs.Ytfefpbnhpncmlaa.CodA Go.Proofs.Ytfefpbnhpncmlaa.CodB Go.Proofs.Ytfefpbnhpncmlaa.CatL Go.Proofs.Ytfefpbnhpncmlaa.PtrA Go.Proofs.Ytfefpbnhpncmlaa.PtrE Go.Proofs.Ytfefpbnhpncmlaa.PtrF Go.Proofs.Ytfefpbnhpncmlaa.PBaseSigns Go.Proofs.YtfefpbnhpncmlaaW.PrintWords Go.Proofs.YtfefpbnhpncmlaaW.PrintLast Go.Proofs.YtfefpbnhpncmlaaW.PrintMore Go.Proofs.Ytfefpbnhpncmlaa.EntG Go.Proofs.Ytfefpbnhpncmlaa.StmA Go.Proofs.Ytfefpbnhpncmlaa.StmB Go.Proofs.Ytfefpbnhpncmlaa.StmC Go.Proofs.Ytfefpbnhpncmlaa.CrcC Go.Proofs.Ytfefpbnhpncmlaa.StmD Go.Proofs.Ytfefpbnhpncmlaa.StmE Go.Proofs.Ytfefpbnhpncmlaa.CrcL Go.Proofs.Ytfefpbnhpncmlaa.StmL Go.Proofs.Ytfefpbnhpncmlaa.StmF Go.Proofs.Ytfefpbnhpncmlaa.StmG Go.Proofs.Ytfefpbnhpncmlaa.StmH Go.Proofs.Ytfefpbnhpncmlaa.StmI Go.Proofs.Ytfefpbnhpncmlaa.StmJ Go.Proofs.Ytfefpbnhpncmlaa.StmK Go.Proofs.Ytfefpbnhpncmlaa.StmM Go.Proofs.Ytfefpbnhpncmlaa.StmN Go.Proofs.Ytfefpbnhpncmlaa.StmO Go.Proofs.Ytfefpbnhpncmlaa.StmP Go.Proofs.Ytfefpbnhpncmlaa.StmR Go.Proofs.Ytfefpbnhpncmlaa.CrcM Go.Proofs.Ytfefpbnhpncmlaa.StmS Go.Proofs.Ytfefpbnhpncmlaa.StmT Go.Proofs.Ytfefpbnhpncmlaa.StmQ Go.Proofs.Ytfefpbnhpncmlaa.StmV Go.Proofs.Ytfefpbnhpncmlaa.StmU
set_option linter.unusedVariables false
set_option linter.unusedSimpArgs false

/-- What reading tells. -/
def Res (L : List Int) (yb ys : ByteArray) (cs : List Chg) (code : Int) : Prop :=
  (L.length < 8 ∧ yb = ⟨#[]⟩ ∧ ys = ⟨#[]⟩ ∧ cs = [] ∧ code = 10) ∨
  (8 ≤ L.length ∧ ¬ OkSum L ∧ yb = ⟨#[]⟩ ∧ ys = ⟨#[]⟩ ∧ cs = [] ∧ code = 12) ∨
  (8 ≤ L.length ∧ OkSum L ∧ NoS L ∧ yb = ⟨#[]⟩ ∧ ys = ⟨#[]⟩ ∧ cs = [] ∧ code = 11) ∨
  (∃ x, RightS x ∧ stmL x = L ∧ yb = x.base ∧ ys = x.snap ∧ cs = x.l ∧ code = 0)
theorem stmL_ok (x : Stm) : OkSum (stmL x) := stmL_sum x
theorem res_unique {L : List Int} {yb ys yb' ys' : ByteArray} {cs cs' : List Chg} {code code' : Int} (h : Res L yb ys cs code) (h' : Res L yb' ys' cs' code') : yb = yb' ∧ ys = ys' ∧ cs = cs' ∧ code = code' := by
  rcases h with ⟨a, rfl, rfl, rfl, rfl⟩ | ⟨a, b, rfl, rfl, rfl, rfl⟩ | ⟨a, b, c, rfl, rfl, rfl, rfl⟩ | ⟨x, a, b, rfl, rfl, rfl, rfl⟩ <;>
  rcases h' with ⟨a', rfl, rfl, rfl, rfl⟩ | ⟨a', b', rfl, rfl, rfl, rfl⟩ | ⟨a', b', c', rfl, rfl, rfl, rfl⟩ | ⟨x', a', b', rfl, rfl, rfl, rfl⟩
  · exact ⟨rfl, rfl, rfl, rfl⟩
  · omega
  · omega
  · have := stmL_len8 x'; rw [b'] at this; omega
  · omega
  · exact ⟨rfl, rfl, rfl, rfl⟩
  · exact absurd b' b
  · exact absurd (b' ▸ stmL_ok x') b
  · omega
  · exact absurd b b'
  · exact ⟨rfl, rfl, rfl, rfl⟩
  · exact absurd b' (c x' a')
  · have := stmL_len8 x; rw [b] at this; omega
  · exact absurd (b ▸ stmL_ok x) b'
  · exact absurd b (c' x a)
  · obtain rfl := stmL_inj a a' (b.trans b'.symm)
    exact ⟨rfl, rfl, rfl, rfl⟩
theorem norm {w : World} {cell : World → Value → List Chg → Prop} {L : List Int} {r : Ending} {w' : World} (hz : cell w' (.slice none 0 0) []) (h : TellsReadS w cell L (.agg #[.string ⟨#[]⟩, .string ⟨#[]⟩, .slice none 0 0]) r w') :
    Below w.heap.size w w' ∧ ∃ yb ys cs code v, Res L yb ys cs code ∧ r = .returned (.tuple #[.agg #[.string yb, .string ys, v], .int .i64 code]) ∧ cell w' v cs := by
  obtain ⟨hb, h⟩ := h
  refine ⟨hb, ?_⟩
  rcases h with ⟨a, h⟩ | ⟨a, b, h⟩ | ⟨a, b, c, h⟩ | ⟨x, v, a, b, h, d⟩
  · exact ⟨_, _, [], 10, _, .inl ⟨a, rfl, rfl, rfl, rfl⟩, h, hz⟩
  · exact ⟨_, _, [], 12, _, .inr (.inl ⟨a, b, rfl, rfl, rfl, rfl⟩), h, hz⟩
  · exact ⟨_, _, [], 11, _, .inr (.inr (.inl ⟨a, b, c, rfl, rfl, rfl, rfl⟩)), h, hz⟩
  · exact ⟨x.base, x.snap, x.l, 0, v, .inr (.inr (.inr ⟨x, a, b, rfl, rfl, rfl, rfl⟩)), h, d⟩
theorem norm_S {w : World} {L : List Int} {r : Ending} {w' : World} (h : TellsReadS w (cellS w) L (.agg Z79) r w') :
    Below w.heap.size w w' ∧ ∃ yb ys cs code v, Res L yb ys cs code ∧ r = .returned (.tuple #[.agg #[.string yb, .string ys, v], .int .i64 code]) ∧ cellS w w' v cs :=
  norm ⟨none, 0, [], rfl, ⟨Kd.C_nil _ _, rfl, fun i hi => absurd hi (Nat.not_lt_zero _)⟩⟩ h
/-- The least stream. -/
def oneS : Stm := ⟨⟨#[]⟩, ⟨#[115]⟩, []⟩
theorem one_right : RightS oneS := ⟨by decide, by decide, by decide, fun i c h => by simp [oneS] at h⟩
theorem one_body : bodyL oneS = [83, 66, 88, 83, 0, 1, 115, 0] := by
  have e0 : shortL 0 = [0] := shortL_small (by decide)
  have e1 : shortL 1 = [1] := shortL_small (by decide)
  have b0 : bytesOf ⟨#[]⟩ = [] := by decide +kernel
  have b1 : bytesOf ⟨#[115]⟩ = [115] := by decide +kernel
  show [83, 66, 88, 83] ++ (shortL 0 ++ bytesOf ⟨#[]⟩) ++ (shortL 1 ++ bytesOf ⟨#[115]⟩) ++ shortL 0 ++ [] = _
  rw [e0, e1, b0, b1]
  rfl
theorem one_len : (stmL oneS).length = 12 := by rw [stmL_len, one_body]; rfl
theorem one_out : outS oneS = stmL oneS := by rw [outS, rightB_true one_right]; rfl
theorem one_code : codeS oneS = 0 := by rw [codeS, rightB_true one_right]; rfl
end Go.Proofs.Ytfefpbnhpncmlaa.StmX
namespace Go.Proofs.Ytfefpbnhpncmlaa.StmY
open Go.RowKit Go.Proofs.Ytfefpbnhpncmlaa.EntL Go.Proofs.Ytfefpbnhpncmlaa.EntB Go.Proofs.Ytfefpbnhpncmlaa.EntC Go.Proofs.Ytfefpbnhpncmlaa.EntD Go.Proofs.Ytfefpbnhpncmlaa.EntE Go.Proofs.Ytfefpbnhpncmlaa.EntF Go.Proofs.Ytfefpbnhpncmlaa.CatR Go.Proofs.Ytfefpbnhpncmlaa.CatT Go.Proofs.Ytfefpbnhpncmlaa.CatU Go.Proofs.Ytfefpbnhpncmlaa.CatK Go.Proofs.Ytfefpbnhpncmlaa.CatS Go.Proofs.Ytfefpbnhpncmlaa.CatY Go.Proofs.Ytfefpbnhpncmlaa.RefG Go.Proofs.Ytfefpbnhpncmlaa.PtrB Go.Proofs.Ytfefpbnhpncmlaa.PtrG Go.Proofs.Ytfefpbnhpncmlaa.Agg Go.Proofs.Ytfefpbnhpncmlaa.B8 Go.Proofs.Ytfefpbnhpncmlaa.CodL Go.Proofs.Ytfefpbnhpncmlaa.CodA Go.Proofs.Ytfefpbnhpncmlaa.CodB Go.Proofs.Ytfefpbnhpncmlaa.CatL Go.Proofs.Ytfefpbnhpncmlaa.PtrA Go.Proofs.Ytfefpbnhpncmlaa.PtrE Go.Proofs.Ytfefpbnhpncmlaa.PtrF Go.Proofs.Ytfefpbnhpncmlaa.PBaseSigns Go.Proofs.YtfefpbnhpncmlaaW.PrintWords Go.Proofs.YtfefpbnhpncmlaaW.PrintLast Go.Proofs.YtfefpbnhpncmlaaW.PrintMore Go.Proofs.Ytfefpbnhpncmlaa.EntG Go.Proofs.Ytfefpbnhpncmlaa.StmA Go.Proofs.Ytfefpbnhpncmlaa.StmB Go.Proofs.Ytfefpbnhpncmlaa.StmC Go.Proofs.Ytfefpbnhpncmlaa.CrcC Go.Proofs.Ytfefpbnhpncmlaa.StmD Go.Proofs.Ytfefpbnhpncmlaa.StmE Go.Proofs.Ytfefpbnhpncmlaa.CrcL Go.Proofs.Ytfefpbnhpncmlaa.StmL Go.Proofs.Ytfefpbnhpncmlaa.StmF Go.Proofs.Ytfefpbnhpncmlaa.StmG Go.Proofs.Ytfefpbnhpncmlaa.StmH Go.Proofs.Ytfefpbnhpncmlaa.StmI Go.Proofs.Ytfefpbnhpncmlaa.StmJ Go.Proofs.Ytfefpbnhpncmlaa.StmK Go.Proofs.Ytfefpbnhpncmlaa.StmM Go.Proofs.Ytfefpbnhpncmlaa.StmN Go.Proofs.Ytfefpbnhpncmlaa.StmO Go.Proofs.Ytfefpbnhpncmlaa.StmP Go.Proofs.Ytfefpbnhpncmlaa.StmR Go.Proofs.Ytfefpbnhpncmlaa.CrcM Go.Proofs.Ytfefpbnhpncmlaa.StmS Go.Proofs.Ytfefpbnhpncmlaa.StmT Go.Proofs.Ytfefpbnhpncmlaa.StmQ Go.Proofs.Ytfefpbnhpncmlaa.StmV Go.Proofs.Ytfefpbnhpncmlaa.StmU Go.Proofs.Ytfefpbnhpncmlaa.StmX
set_option linter.unusedVariables false
set_option linter.unusedSimpArgs false

theorem textL_two (s : ByteArray) (h : s.size < 16384) : (textL s).length ≤ 2 + s.size := by
  rw [textL, List.length_append, bytesOf_len]
  have : (shortL s.size).length ≤ 2 := glen_le (n := s.size) (k := 2) (by decide) (by omega)
  omega
theorem chgL_le5 (c : Chg) (h : wtC c ≤ 10000) : (chgL c).length ≤ wtC c + 5 := by
  unfold wtC at *
  unfold chgL
  have h1 := textL_two c.key (by omega)
  have h2 := textL_two c.inn (by omega)
  have h3 := textL_two c.data (by omega)
  rw [List.length_append]
  split
  · simp; omega
  · simp; omega
theorem flatC_le5 (l : List Chg) (h : wtL l ≤ 10000) : (l.flatMap chgL).length ≤ wtL l + 5 * l.length := by
  induction l with
  | nil => simp
  | cons c l ih =>
    rw [wtL_cons] at h ⊢
    have h1 := ih (by omega)
    have h2 := chgL_le5 c (by omega)
    rw [List.flatMap_cons, List.length_append, List.length_cons]
    omega
theorem stmL_le (x : Stm) (hx : RightS x) (h : wtL x.l + 18 * x.l.length ≤ 9000) : (stmL x).length ≤ 10000 := by
  have h1 := headS_le x (rightS_text hx).1 (rightS_text hx).2 (by omega)
  have h2 := flatC_le5 x.l (by omega)
  rw [stmL_len, bodyL_head, List.length_append]
  omega
theorem textL_pos (s : ByteArray) : 1 + s.size ≤ (textL s).length := by
  rw [textL, List.length_append, bytesOf_len]
  have : 0 < (shortL s.size).length := glen_pos _
  omega
theorem stmL_ge (x : Stm) (hx : RightS x) : 12 ≤ (stmL x).length := by
  have h1 := textL_pos x.base
  have h2 := textL_pos x.snap
  have h3 := (namedB_le hx.snap).1
  have h4 : 0 < (shortL x.l.length).length := glen_pos _
  rw [stmL_len, bodyL_eq]
  simp only [List.length_append, List.length_cons, List.length_nil]
  omega
/-- What reading a right stream's own bytes tells. -/
theorem res_own {X : Stm} (hX : RightS X) {yb ys : ByteArray} {cs : List Chg} {code : Int} (h : Res (stmL X) yb ys cs code) : yb = X.base ∧ ys = X.snap ∧ cs = X.l ∧ code = 0 :=
  res_unique h (.inr (.inr (.inr ⟨X, hX, rfl, rfl, rfl, rfl, rfl⟩)))
/-- What reading turned bytes tells. -/
theorem res_bad {L : List Int} {yb ys : ByteArray} {cs : List Chg} {code : Int} (h8 : 8 ≤ L.length) (hs : ¬ OkSum L) (h : Res L yb ys cs code) : code = 12 := by
  rcases h with ⟨a, _, _, _, rfl⟩ | ⟨a, b, _, _, _, rfl⟩ | ⟨a, b, c, _, _, _, rfl⟩ | ⟨x, a, b, _, _, _, rfl⟩
  · omega
  · rfl
  · exact absurd b hs
  · exact absurd (b ▸ stmL_ok x) hs
set_option maxRecDepth 100000 in
set_option maxHeartbeats 1000000 in
theorem few2_calls (x : Stm) (A : Option Addr) (c n : Nat) (xs : List Sl) (w : World) (h : CR w A n xs x.l) :
    Calls Try.prog 45 #[.agg #[.string x.base, .string x.snap, .slice A n c]] w fun e w' => ∃ q : Bool, e = .returned (.bool q) ∧ (q = true → wtL x.l + 18 * x.l.length ≤ 9000) ∧ Below w.heap.size w w' := by
  obtain ⟨base, snap, l⟩ := x
  have H := Aside0.mk h
  have hn63 : n ≤ 9223372036854775807 := h.row.2.1
  have B0 := Aside0.mk (below_alloc (Below.refl w.heap.size w) (.cells #[.string base, .string snap, .slice A n c] 79))
  have G0 := Aside0.mk (blk_new w (.cells #[.string base, .string snap, .slice A n c] 79))
  obtain ⟨P, hP⟩ : ∃ P : Ending → World → Prop, P = (fun e w' => ∃ q : Bool, e = .returned (.bool q) ∧ (q = true → wtL l + 18 * l.length ≤ 9000) ∧ Below w.heap.size w w') := ⟨_, rfl⟩
  rw [← hP]
  have HP := Aside0.mk hP
  clear hP h
  have m1 := run_min (base.size : Int) 900
  have m2 := run_min (snap.size : Int) 900
  have ms1 : 0 ≤ min (base.size : Int) 900 ∧ min (base.size : Int) 900 ≤ 900 := by omega
  have ms2 : 0 ≤ min (snap.size : Int) 900 ∧ min (snap.size : Int) 900 ≤ 900 := by omega
  go_enter Try.func45, Try.ntmps45
  go_wp2
  generalize hm0 : min (base.size : Int) 900 + min (snap.size : Int) 900 = m0 at *
  have hm1 : 0 ≤ m0 ∧ m0 ≤ 1800 := by omega
  generalize hW0 : w.alloc (.cells #[.string base, .string snap, .slice A n c] 79) = W0 at *
  clear hW0
  clear m1 m2 ms1 ms2 hm0
  go_loopw [3, 4] (fun v3 v4 wr => ∃ (j : Nat) (m : Int), v3 = .int .i64 m ∧ v4 = .int .i64 (j : Int) ∧ j ≤ n ∧ 20 * (j : Int) ≤ m ∧ m ≤ 40000 ∧ (m < 9000 → ((wtL (l.take j) + 18 * j : Nat) : Int) ≤ m) ∧ Aside0 (Below W0.heap.size W0 wr)) (fun _ v _ => n - (intOf v).toNat)
  case atStart => exact ⟨0, m0, rfl, rfl, Nat.zero_le _, by omega, by omega, fun _ => by rw [List.take_zero, wtL_nil]; omega, ⟨Below.refl _ _⟩⟩
  case round =>
    obtain ⟨j, m, rfl, rfl, hj, hm20, hm40, hwt, HB'⟩ := hrel
    have HB := Aside0.mk (below_then B0.out B0.out.size HB'.out)
    have G1 := Aside0.mk (blk_below G0.out HB'.out)
    have x2 : wr.cell? ⟨w.heap.size, 2, none⟩ = some (.slice A n c) := by rw [cell_of_row _ _ 2 _ 79 (0, 0) G1.out]; rfl
    by_cases hlt : j < n
    · have dj : decide ((j : Int) < (n : Int)) = true := decide_eq_true (by omega)
      by_cases hm9 : m < 9000
      · have dm : decide (m < 9000) = true := decide_eq_true hm9
        obtain ⟨b, off, rfl, hb, hx⟩ := CF_at H.out.row (by omega)
        have hxj := hx j hlt
        have hca := H.out.each j hlt
        obtain ⟨p, hp⟩ : ∃ p, p = xs.getD j default := ⟨_, rfl⟩
        obtain ⟨y, hy⟩ : ∃ y, y = l.getD j default := ⟨_, rfl⟩
        rw [← hp] at hxj hca
        rw [← hy] at hca
        have HXW := Aside0.mk hxj
        have HY := Aside0.mk (show l.take (j + 1) = l.take j ++ [y] by
          have hl : l.length = n := H.out.len
          rw [List.take_add_one, List.getElem?_eq_getElem (by omega), hy, List.getD_eq_getElem?_getD, List.getElem?_eq_getElem (by omega)]; rfl)
        have l1 : p.n1 = y.key.size := by have := hca.1.k.1; rw [bytesOf_len] at this; exact this.symm
        have l2 : p.n2 = y.inn.size := by have := hca.1.i.1; rw [bytesOf_len] at this; exact this.symm
        have l3 : p.n3 = y.data.size := by have := hca.1.d.1; rw [bytesOf_len] at this; exact this.symm
        have hw2 := hwt hm9
        obtain ⟨A1, n1, c1, A2, n2, c2, A3, n3, c3, g⟩ := p
        simp only at l1 l2 l3
        have hs1 : 0 ≤ min (n1 : Int) 9000 ∧ min (n1 : Int) 9000 ≤ 9000 := by omega
        have hs2 : 0 ≤ min (n2 : Int) 9000 ∧ min (n2 : Int) 9000 ≤ 9000 := by omega
        have hs3 : 0 ≤ min (n3 : Int) 9000 ∧ min (n3 : Int) 9000 ≤ 9000 := by omega
        have HF : Aside0 (m + 20 + min (n1 : Int) 9000 + min (n2 : Int) 9000 + min (n3 : Int) 9000 < 9000 → ((wtL (l.take (j + 1)) + 18 * (j + 1) : Nat) : Int) ≤ m + 20 + min (n1 : Int) 9000 + min (n2 : Int) 9000 + min (n3 : Int) 9000) := ⟨fun hlt9 => by
          rw [HY.out, wtL_snoc, wtC]
          omega⟩
        clear hxj hca hp hy hx hwt
        go_wp2
        have hS0 : Below w.heap.size w wr.drew ∧ wr.drew.heap[w.heap.size]? = some (.cells #[.string base, .string snap, .slice (some ⟨b, off, none⟩) n c] 79 (0, 0)) := ⟨below_then HB.out HB.out.size (below_drew (Below.refl _ _)), blk_below G1.out (below_drew (Below.refl _ _))⟩
        have HBD := Aside0.mk (below_then HB'.out HB'.out.size (below_drew (Below.refl wr.heap.size wr)))
        refine wp_region_held_drew (S := fun w' => Below w.heap.size w w' ∧ w'.heap[w.heap.size]? = some (.cells #[.string base, .string snap, .slice (some ⟨b, off, none⟩) n c] 79 (0, 0))) (by kernel_rfl) hS0 (fun hW => ?_)
        refine wpAnyH_take (i := 0) (oi := ⟨some 25, _, _, _, _, _⟩) (v := .int .i64 m) rfl (by kernel_rfl) (by kernel_rfl) (by kernel_rfl) (fun _ _ _ h => h) (.inl ⟨by rfl, fun W1 h1 => by go_simp⟩) hW ?_
        try simp only [Act.put, List.setIfInBounds_toArray, List.set_cons_zero, List.set_cons_succ]
        refine wpAnyH_take (i := 1) (oi := ⟨some 26, _, _, _, _, _⟩) (v := .int .i64 (m + 20)) rfl (by kernel_rfl) (by kernel_rfl) (by kernel_rfl) (fun _ _ _ h => h) (.inl ⟨by rfl, fun W1 h1 => by go_simp; rw [IntKind.wrap_i64]; omega⟩) hW ?_
        try simp only [Act.put, List.setIfInBounds_toArray, List.set_cons_zero, List.set_cons_succ]
        refine wpAnyH_take (i := 2) (oi := ⟨some 27, _, _, _, _, _⟩) (v := .pointer (some ⟨w.heap.size, 2, none⟩)) rfl (by kernel_rfl) (by kernel_rfl) (by kernel_rfl) (fun _ _ _ h => h) (.inl ⟨by rfl, fun W1 h1 => by go_simp⟩) hW ?_
        try simp only [Act.put, List.setIfInBounds_toArray, List.set_cons_zero, List.set_cons_succ]
        refine wpAnyH_take (i := 3) (oi := ⟨some 28, _, _, _, _, _⟩) (v := .slice (some ⟨b, off, none⟩) n c) rfl (by kernel_rfl) (by kernel_rfl) (by kernel_rfl) (fun _ _ _ h => h) (.inl ⟨by rfl, fun W1 h1 => by (have x1 : W1.cell? ⟨w.heap.size, 2, none⟩ = some (.slice (some ⟨b, off, none⟩) n c) := (by rw [cell_of_row _ _ 2 _ 79 (0, 0) h1.2]; rfl)); go_simp⟩) hW ?_
        try simp only [Act.put, List.setIfInBounds_toArray, List.set_cons_zero, List.set_cons_succ]
        refine wpAnyH_take (i := 4) (oi := ⟨some 29, _, _, _, _, _⟩) (v := .int .i64 (j : Int)) rfl (by kernel_rfl) (by kernel_rfl) (by kernel_rfl) (fun _ _ _ h => h) (.inl ⟨by rfl, fun W1 h1 => by go_simp⟩) hW ?_
        try simp only [Act.put, List.setIfInBounds_toArray, List.set_cons_zero, List.set_cons_succ]
        refine wpAnyH_take (i := 5) (oi := ⟨some 30, _, _, _, _, _⟩) (v := .pointer (some ⟨b, off + j * 4, none⟩)) rfl (by kernel_rfl) (by kernel_rfl) (by kernel_rfl) (fun _ _ _ h => h) (.inl ⟨by rfl, fun W1 h1 => by go_simp⟩) hW ?_
        try simp only [Act.put, List.setIfInBounds_toArray, List.set_cons_zero, List.set_cons_succ]
        refine wpAnyH_take (i := 6) (oi := ⟨some 31, _, _, _, _, _⟩) (v := .pointer (some ⟨b, off + j * 4, none⟩)) rfl (by kernel_rfl) (by kernel_rfl) (by kernel_rfl) (fun _ _ _ h => h) (.inl ⟨by rfl, fun W1 h1 => by go_simp⟩) hW ?_
        try simp only [Act.put, List.setIfInBounds_toArray, List.set_cons_zero, List.set_cons_succ]
        refine wpAnyH_take (i := 7) (oi := ⟨some 32, _, _, _, _, _⟩) (v := .pointer (some ⟨b, off + j * 4, none⟩)) rfl (by kernel_rfl) (by kernel_rfl) (by kernel_rfl) (fun _ _ _ h => h) (.inl ⟨by rfl, fun W1 h1 => by go_simp⟩) hW ?_
        try simp only [Act.put, List.setIfInBounds_toArray, List.set_cons_zero, List.set_cons_succ]
        refine wpAnyH_take (i := 8) (oi := ⟨some 33, _, _, _, _, _⟩) (v := .slice A1 n1 c1) rfl (by kernel_rfl) (by kernel_rfl) (by kernel_rfl) (fun _ _ _ h => h) (.inl ⟨by rfl, fun W1 h1 => by (have x1 : W1.cell? ⟨b, off + j * 4, none⟩ = some (.slice A1 n1 c1) := (rangeAt_below HXW.out h1.1 hb) 0 _ rfl); go_simp⟩) hW ?_
        try simp only [Act.put, List.setIfInBounds_toArray, List.set_cons_zero, List.set_cons_succ]
        refine wpAnyH_take (i := 9) (oi := ⟨some 34, _, _, _, _, _⟩) (v := .int .i64 (n1 : Int)) rfl (by kernel_rfl) (by kernel_rfl) (by kernel_rfl) (fun _ _ _ h => h) (.inl ⟨by rfl, fun W1 h1 => by go_simp⟩) hW ?_
        try simp only [Act.put, List.setIfInBounds_toArray, List.set_cons_zero, List.set_cons_succ]
        refine wpAnyH_take (i := 10) (oi := ⟨some 35, _, _, _, _, _⟩) (v := .int .i64 (min (n1 : Int) 9000)) rfl (by kernel_rfl) (by kernel_rfl) (by kernel_rfl) (fun _ _ _ h => h) (.inl ⟨by rfl, fun W1 h1 => by (have x1 := run_min (n1 : Int) 9000); go_simp⟩) hW ?_
        try simp only [Act.put, List.setIfInBounds_toArray, List.set_cons_zero, List.set_cons_succ]
        refine wpAnyH_take (i := 11) (oi := ⟨some 36, _, _, _, _, _⟩) (v := .int .i64 (m + 20 + min (n1 : Int) 9000)) rfl (by kernel_rfl) (by kernel_rfl) (by kernel_rfl) (fun _ _ _ h => h) (.inl ⟨by rfl, fun W1 h1 => by go_simp; rw [IntKind.wrap_i64]; omega⟩) hW ?_
        try simp only [Act.put, List.setIfInBounds_toArray, List.set_cons_zero, List.set_cons_succ]
        refine wpAnyH_take (i := 12) (oi := ⟨some 37, _, _, _, _, _⟩) (v := .pointer (some ⟨w.heap.size, 2, none⟩)) rfl (by kernel_rfl) (by kernel_rfl) (by kernel_rfl) (fun _ _ _ h => h) (.inl ⟨by rfl, fun W1 h1 => by go_simp⟩) hW ?_
        try simp only [Act.put, List.setIfInBounds_toArray, List.set_cons_zero, List.set_cons_succ]
        refine wpAnyH_take (i := 13) (oi := ⟨some 38, _, _, _, _, _⟩) (v := .slice (some ⟨b, off, none⟩) n c) rfl (by kernel_rfl) (by kernel_rfl) (by kernel_rfl) (fun _ _ _ h => h) (.inl ⟨by rfl, fun W1 h1 => by (have x1 : W1.cell? ⟨w.heap.size, 2, none⟩ = some (.slice (some ⟨b, off, none⟩) n c) := (by rw [cell_of_row _ _ 2 _ 79 (0, 0) h1.2]; rfl)); go_simp⟩) hW ?_
        try simp only [Act.put, List.setIfInBounds_toArray, List.set_cons_zero, List.set_cons_succ]
        refine wpAnyH_take (i := 14) (oi := ⟨some 39, _, _, _, _, _⟩) (v := .int .i64 (j : Int)) rfl (by kernel_rfl) (by kernel_rfl) (by kernel_rfl) (fun _ _ _ h => h) (.inl ⟨by rfl, fun W1 h1 => by go_simp⟩) hW ?_
        try simp only [Act.put, List.setIfInBounds_toArray, List.set_cons_zero, List.set_cons_succ]
        refine wpAnyH_take (i := 15) (oi := ⟨some 40, _, _, _, _, _⟩) (v := .pointer (some ⟨b, off + j * 4, none⟩)) rfl (by kernel_rfl) (by kernel_rfl) (by kernel_rfl) (fun _ _ _ h => h) (.inl ⟨by rfl, fun W1 h1 => by go_simp⟩) hW ?_
        try simp only [Act.put, List.setIfInBounds_toArray, List.set_cons_zero, List.set_cons_succ]
        refine wpAnyH_take (i := 16) (oi := ⟨some 41, _, _, _, _, _⟩) (v := .pointer (some ⟨b, off + j * 4, none⟩)) rfl (by kernel_rfl) (by kernel_rfl) (by kernel_rfl) (fun _ _ _ h => h) (.inl ⟨by rfl, fun W1 h1 => by go_simp⟩) hW ?_
        try simp only [Act.put, List.setIfInBounds_toArray, List.set_cons_zero, List.set_cons_succ]
        refine wpAnyH_take (i := 17) (oi := ⟨some 42, _, _, _, _, _⟩) (v := .pointer (some ⟨b, off + j * 4 + 1, none⟩)) rfl (by kernel_rfl) (by kernel_rfl) (by kernel_rfl) (fun _ _ _ h => h) (.inl ⟨by rfl, fun W1 h1 => by go_simp⟩) hW ?_
        try simp only [Act.put, List.setIfInBounds_toArray, List.set_cons_zero, List.set_cons_succ]
        refine wpAnyH_take (i := 18) (oi := ⟨some 43, _, _, _, _, _⟩) (v := .slice A2 n2 c2) rfl (by kernel_rfl) (by kernel_rfl) (by kernel_rfl) (fun _ _ _ h => h) (.inl ⟨by rfl, fun W1 h1 => by (have x1 : W1.cell? ⟨b, off + j * 4 + 1, none⟩ = some (.slice A2 n2 c2) := (rangeAt_below HXW.out h1.1 hb) 1 _ rfl); go_simp⟩) hW ?_
        try simp only [Act.put, List.setIfInBounds_toArray, List.set_cons_zero, List.set_cons_succ]
        refine wpAnyH_take (i := 19) (oi := ⟨some 44, _, _, _, _, _⟩) (v := .int .i64 (n2 : Int)) rfl (by kernel_rfl) (by kernel_rfl) (by kernel_rfl) (fun _ _ _ h => h) (.inl ⟨by rfl, fun W1 h1 => by go_simp⟩) hW ?_
        try simp only [Act.put, List.setIfInBounds_toArray, List.set_cons_zero, List.set_cons_succ]
        refine wpAnyH_take (i := 20) (oi := ⟨some 45, _, _, _, _, _⟩) (v := .int .i64 (min (n2 : Int) 9000)) rfl (by kernel_rfl) (by kernel_rfl) (by kernel_rfl) (fun _ _ _ h => h) (.inl ⟨by rfl, fun W1 h1 => by (have x1 := run_min (n2 : Int) 9000); go_simp⟩) hW ?_
        try simp only [Act.put, List.setIfInBounds_toArray, List.set_cons_zero, List.set_cons_succ]
        refine wpAnyH_take (i := 21) (oi := ⟨some 46, _, _, _, _, _⟩) (v := .int .i64 (m + 20 + min (n1 : Int) 9000 + min (n2 : Int) 9000)) rfl (by kernel_rfl) (by kernel_rfl) (by kernel_rfl) (fun _ _ _ h => h) (.inl ⟨by rfl, fun W1 h1 => by go_simp; rw [IntKind.wrap_i64]; omega⟩) hW ?_
        try simp only [Act.put, List.setIfInBounds_toArray, List.set_cons_zero, List.set_cons_succ]
        refine wpAnyH_take (i := 22) (oi := ⟨some 47, _, _, _, _, _⟩) (v := .pointer (some ⟨w.heap.size, 2, none⟩)) rfl (by kernel_rfl) (by kernel_rfl) (by kernel_rfl) (fun _ _ _ h => h) (.inl ⟨by rfl, fun W1 h1 => by go_simp⟩) hW ?_
        try simp only [Act.put, List.setIfInBounds_toArray, List.set_cons_zero, List.set_cons_succ]
        refine wpAnyH_take (i := 23) (oi := ⟨some 48, _, _, _, _, _⟩) (v := .slice (some ⟨b, off, none⟩) n c) rfl (by kernel_rfl) (by kernel_rfl) (by kernel_rfl) (fun _ _ _ h => h) (.inl ⟨by rfl, fun W1 h1 => by (have x1 : W1.cell? ⟨w.heap.size, 2, none⟩ = some (.slice (some ⟨b, off, none⟩) n c) := (by rw [cell_of_row _ _ 2 _ 79 (0, 0) h1.2]; rfl)); go_simp⟩) hW ?_
        try simp only [Act.put, List.setIfInBounds_toArray, List.set_cons_zero, List.set_cons_succ]
        refine wpAnyH_take (i := 24) (oi := ⟨some 49, _, _, _, _, _⟩) (v := .int .i64 (j : Int)) rfl (by kernel_rfl) (by kernel_rfl) (by kernel_rfl) (fun _ _ _ h => h) (.inl ⟨by rfl, fun W1 h1 => by go_simp⟩) hW ?_
        try simp only [Act.put, List.setIfInBounds_toArray, List.set_cons_zero, List.set_cons_succ]
        refine wpAnyH_take (i := 25) (oi := ⟨some 50, _, _, _, _, _⟩) (v := .pointer (some ⟨b, off + j * 4, none⟩)) rfl (by kernel_rfl) (by kernel_rfl) (by kernel_rfl) (fun _ _ _ h => h) (.inl ⟨by rfl, fun W1 h1 => by go_simp⟩) hW ?_
        try simp only [Act.put, List.setIfInBounds_toArray, List.set_cons_zero, List.set_cons_succ]
        refine wpAnyH_take (i := 26) (oi := ⟨some 51, _, _, _, _, _⟩) (v := .pointer (some ⟨b, off + j * 4, none⟩)) rfl (by kernel_rfl) (by kernel_rfl) (by kernel_rfl) (fun _ _ _ h => h) (.inl ⟨by rfl, fun W1 h1 => by go_simp⟩) hW ?_
        try simp only [Act.put, List.setIfInBounds_toArray, List.set_cons_zero, List.set_cons_succ]
        refine wpAnyH_take (i := 27) (oi := ⟨some 52, _, _, _, _, _⟩) (v := .pointer (some ⟨b, off + j * 4 + 2, none⟩)) rfl (by kernel_rfl) (by kernel_rfl) (by kernel_rfl) (fun _ _ _ h => h) (.inl ⟨by rfl, fun W1 h1 => by go_simp⟩) hW ?_
        try simp only [Act.put, List.setIfInBounds_toArray, List.set_cons_zero, List.set_cons_succ]
        refine wpAnyH_take (i := 28) (oi := ⟨some 53, _, _, _, _, _⟩) (v := .slice A3 n3 c3) rfl (by kernel_rfl) (by kernel_rfl) (by kernel_rfl) (fun _ _ _ h => h) (.inl ⟨by rfl, fun W1 h1 => by (have x1 : W1.cell? ⟨b, off + j * 4 + 2, none⟩ = some (.slice A3 n3 c3) := (rangeAt_below HXW.out h1.1 hb) 2 _ rfl); go_simp⟩) hW ?_
        try simp only [Act.put, List.setIfInBounds_toArray, List.set_cons_zero, List.set_cons_succ]
        refine wpAnyH_take (i := 29) (oi := ⟨some 54, _, _, _, _, _⟩) (v := .int .i64 (n3 : Int)) rfl (by kernel_rfl) (by kernel_rfl) (by kernel_rfl) (fun _ _ _ h => h) (.inl ⟨by rfl, fun W1 h1 => by go_simp⟩) hW ?_
        try simp only [Act.put, List.setIfInBounds_toArray, List.set_cons_zero, List.set_cons_succ]
        refine wpAnyH_take (i := 30) (oi := ⟨some 55, _, _, _, _, _⟩) (v := .int .i64 (min (n3 : Int) 9000)) rfl (by kernel_rfl) (by kernel_rfl) (by kernel_rfl) (fun _ _ _ h => h) (.inl ⟨by rfl, fun W1 h1 => by (have x1 := run_min (n3 : Int) 9000); go_simp⟩) hW ?_
        try simp only [Act.put, List.setIfInBounds_toArray, List.set_cons_zero, List.set_cons_succ]
        refine wpAnyH_take (i := 31) (oi := ⟨some 56, _, _, _, _, _⟩) (v := .int .i64 (m + 20 + min (n1 : Int) 9000 + min (n2 : Int) 9000 + min (n3 : Int) 9000)) rfl (by kernel_rfl) (by kernel_rfl) (by kernel_rfl) (fun _ _ _ h => h) (.inl ⟨by rfl, fun W1 h1 => by go_simp; rw [IntKind.wrap_i64]; omega⟩) hW ?_
        try simp only [Act.put, List.setIfInBounds_toArray, List.set_cons_zero, List.set_cons_succ]
        refine wpAnyH_take (i := 32) (oi := ⟨some 3, _, _, _, _, _⟩) (v := .int .i64 (m + 20 + min (n1 : Int) 9000 + min (n2 : Int) 9000 + min (n3 : Int) 9000)) rfl (by kernel_rfl) (by kernel_rfl) (by kernel_rfl) (fun _ _ _ h => h) (.inl ⟨by rfl, fun W1 h1 => by go_simp⟩) hW ?_
        try simp only [Act.put, List.setIfInBounds_toArray, List.set_cons_zero, List.set_cons_succ]
        refine wpAnyH_done (by kernel_rfl) ?_ _
        clear hW hS0
        have hq1 : 20 * ((j : Int) + 1) ≤ m + 20 + min (n1 : Int) 9000 + min (n2 : Int) 9000 + min (n3 : Int) 9000 := by omega
        have hq2 : m + 20 + min (n1 : Int) 9000 + min (n2 : Int) 9000 + min (n3 : Int) 9000 ≤ 40000 := by omega
        generalize m + 20 + min (n1 : Int) 9000 + min (n2 : Int) 9000 + min (n3 : Int) 9000 = m5 at *
        go_wp2
        go_roundw
        case rel => exact ⟨j + 1, m5, rfl, by go_num, by omega, by omega, by omega, HF.out, HBD⟩
        case measure => simp [intOf]; omega
      · have dm : decide (m < 9000) = false := decide_eq_false hm9
        go_wp2
        rw [HP.out]
        exact ⟨false, rfl, fun h => by simp at h, HB.out⟩
    · have dj : decide ((j : Int) < (n : Int)) = false := decide_eq_false (by omega)
      have HL := Aside0.mk (show l.take j = l from List.take_of_length_le (by have hl : l.length = n := H.out.len; omega))
      rw [HL.out] at hwt
      by_cases hm9 : m < 9000
      · have dm : decide (m < 9000) = true := decide_eq_true hm9
        have hw2 := hwt hm9
        clear hwt
        go_wp2
        rw [HP.out]
        have hll : l.length = n := H.out.len
        exact ⟨true, rfl, fun _ => by omega, HB.out⟩
      · have dm : decide (m < 9000) = false := decide_eq_false hm9
        clear hwt
        go_wp2
        rw [HP.out]
        exact ⟨false, rfl, fun h => by simp at h, HB.out⟩
end Go.Proofs.Ytfefpbnhpncmlaa.StmY
namespace Go.Proofs.Ytfefpbnhpncmlaa.StmBack
open Go.RowKit Go.Proofs.Ytfefpbnhpncmlaa.EntL Go.Proofs.Ytfefpbnhpncmlaa.EntB Go.Proofs.Ytfefpbnhpncmlaa.EntC Go.Proofs.Ytfefpbnhpncmlaa.EntD Go.Proofs.Ytfefpbnhpncmlaa.EntE Go.Proofs.Ytfefpbnhpncmlaa.EntF Go.Proofs.Ytfefpbnhpncmlaa.CatR Go.Proofs.Ytfefpbnhpncmlaa.CatT Go.Proofs.Ytfefpbnhpncmlaa.CatU Go.Proofs.Ytfefpbnhpncmlaa.CatK Go.Proofs.Ytfefpbnhpncmlaa.CatS Go.Proofs.Ytfefpbnhpncmlaa.CatY Go.Proofs.Ytfefpbnhpncmlaa.RefG Go.Proofs.Ytfefpbnhpncmlaa.PtrB Go.Proofs.Ytfefpbnhpncmlaa.PtrG Go.Proofs.Ytfefpbnhpncmlaa.Agg Go.Proofs.Ytfefpbnhpncmlaa.B8 Go.Proofs.Ytfefpbnhpncmlaa.CodL Go.Proofs.Ytfefpbnhpncmlaa.CodA Go.Proofs.Ytfefpbnhpncmlaa.CodB Go.Proofs.Ytfefpbnhpncmlaa.CatL Go.Proofs.Ytfefpbnhpncmlaa.PtrA Go.Proofs.Ytfefpbnhpncmlaa.PtrE Go.Proofs.Ytfefpbnhpncmlaa.PtrF Go.Proofs.Ytfefpbnhpncmlaa.PBaseSigns Go.Proofs.YtfefpbnhpncmlaaW.PrintWords Go.Proofs.YtfefpbnhpncmlaaW.PrintLast Go.Proofs.YtfefpbnhpncmlaaW.PrintMore Go.Proofs.Ytfefpbnhpncmlaa.EntG Go.Proofs.Ytfefpbnhpncmlaa.StmA Go.Proofs.Ytfefpbnhpncmlaa.StmB Go.Proofs.Ytfefpbnhpncmlaa.StmC Go.Proofs.Ytfefpbnhpncmlaa.CrcC Go.Proofs.Ytfefpbnhpncmlaa.StmD Go.Proofs.Ytfefpbnhpncmlaa.StmE Go.Proofs.Ytfefpbnhpncmlaa.CrcL Go.Proofs.Ytfefpbnhpncmlaa.StmL Go.Proofs.Ytfefpbnhpncmlaa.StmF Go.Proofs.Ytfefpbnhpncmlaa.StmG Go.Proofs.Ytfefpbnhpncmlaa.StmH Go.Proofs.Ytfefpbnhpncmlaa.StmI Go.Proofs.Ytfefpbnhpncmlaa.StmJ Go.Proofs.Ytfefpbnhpncmlaa.StmK Go.Proofs.Ytfefpbnhpncmlaa.StmM Go.Proofs.Ytfefpbnhpncmlaa.StmN Go.Proofs.Ytfefpbnhpncmlaa.StmO Go.Proofs.Ytfefpbnhpncmlaa.StmP Go.Proofs.Ytfefpbnhpncmlaa.StmR Go.Proofs.Ytfefpbnhpncmlaa.CrcM Go.Proofs.Ytfefpbnhpncmlaa.StmS Go.Proofs.Ytfefpbnhpncmlaa.StmT Go.Proofs.Ytfefpbnhpncmlaa.StmQ Go.Proofs.Ytfefpbnhpncmlaa.StmV Go.Proofs.Ytfefpbnhpncmlaa.StmU Go.Proofs.Ytfefpbnhpncmlaa.StmX Go.Proofs.Ytfefpbnhpncmlaa.StmY
set_option linter.unusedVariables false
set_option linter.unusedSimpArgs false

theorem bits_one (a : Nat) (ha : a < 4294967296) : bits .and .u32 (a : Int) 1 = ((a % 2 : Nat) : Int) := by
  have h := bits_mask .u32 32 (by decide) (fun n h0 h1 => by rw [IntKind.wrap_u32]; omega) 1 (by decide) (a : Int) (by omega) (by omega)
  simpa using h
theorem bits_xor_u8 (a k : Nat) (ha : a < 256) (hk : k < 8) : bits .xor .u8 (a : Int) (2 ^ k % 256) = ((a ^^^ 2 ^ k : Nat) : Int) := by
  have hp : 2 ^ k < 256 := Nat.lt_of_lt_of_le (Nat.pow_lt_pow_right (by decide) hk) (by decide)
  have hx : a ^^^ 2 ^ k < 2 ^ 8 := Nat.xor_lt_two_pow (by omega) (by omega)
  have e : ((2 : Int) ^ k % 256) = ((2 ^ k : Nat) : Int) := by
    have h : ((2 : Int) ^ k) = ((2 ^ k : Nat) : Int) := by rw [Int.natCast_pow]; rfl
    rw [h]
    generalize 2 ^ k = z at *
    omega
  rw [e]
  generalize 2 ^ k = b at *
  have h1 : (BitVec.ofInt 8 (a : Int)).toNat = a := by
    rw [BitVec.ofInt_natCast, BitVec.toNat_ofNat]; exact Nat.mod_eq_of_lt (by omega)
  have h2 : (BitVec.ofInt 8 (b : Int)).toNat = b := by
    rw [BitVec.ofInt_natCast, BitVec.toNat_ofNat]; exact Nat.mod_eq_of_lt (by omega)
  show IntKind.u8.wrap ((BitVec.ofInt 8 (a : Int) ^^^ BitVec.ofInt 8 (b : Int)).toNat : Int) = _
  rw [BitVec.toNat_xor, h1, h2, IntKind.wrap_u8]
  omega
theorem bit_at (b i : Nat) (h : b < 4294967296) : (bits .and .u32 ((b : Int) / 2 ^ i) 1 == 1) = b.testBit i := by
  have e : ((b : Int) / 2 ^ i) = ((b / 2 ^ i : Nat) : Int) := by
    rw [Int.natCast_ediv, Int.natCast_pow]; rfl
  have hlt : b / 2 ^ i < 4294967296 := Nat.lt_of_le_of_lt (Nat.div_le_self _ _) h
  rw [e, bits_one _ hlt, Nat.testBit_eq_decide_div_mod_eq]
  by_cases hm : b / 2 ^ i % 2 = 1
  · simp [hm]
  · rw [decide_eq_false hm]
    have : b / 2 ^ i % 2 = 0 := by omega
    simp [this]
set_option maxRecDepth 100000 in
set_option maxHeartbeats 8000000 in
theorem law (x : Stm) (A : Option Addr) (c n : Nat) (xs : List Sl) (at' : Int) (by' : Nat) (hat : -9223372036854775808 ≤ at' ∧ at' < 9223372036854775808) (hby : by' < 4294967296) (w : World) (h : CR w A n xs x.l) :
    Calls Try.prog 12 #[.agg #[.string x.base, .string x.snap, .slice A n c], .int .i64 at', .int .u32 (by' : Int)] w fun r w' => r = .returned (.bool true) ∧ Below w.heap.size w w' := by
  obtain ⟨base, snap, l⟩ := x
  have HLEN := Aside0.mk h.len
  have H := Aside0.mk h
  have B0 := Aside0.mk (below_alloc (Below.refl w.heap.size w) (.cells #[.string base, .string snap, .slice A n c] 79))
  have G0 := Aside0.mk (blk_new w (.cells #[.string base, .string snap, .slice A n c] 79))
  obtain ⟨P, hP⟩ : ∃ P : Ending → World → Prop, P = (fun r w' => r = .returned (.bool true) ∧ Below w.heap.size w w') := ⟨_, rfl⟩
  rw [← hP]
  have HP := Aside0.mk hP
  clear hP h
  go_enter Try.func12, Try.ntmps12
  go_wp2_with (refine wpList_load_row rfl 79 (.tmp 3) rfl w.heap.size rfl 79 #[.string base, .string snap, .slice A n c] (0, 0) _ G0.out StmP.u79 rfl (i79 _ _ _) ?_)
  generalize hW0 : w.alloc (.cells #[.string base, .string snap, .slice A n c] 79) = W0 at *
  clear hW0
  refine (few2_calls ⟨base, snap, l⟩ A c n xs W0 (H.out.below B0.out)).mono ?_
  rintro e w1 ⟨qf, rfl, hqf, hb1⟩
  have G1 := Aside0.mk (blk_below G0.out hb1)
  have B1 := Aside0.mk (below_then B0.out B0.out.size hb1)
  clear hb1 G0 B0
  cases qf with
  | false =>
    go_wp2
    rw [HP.out]
    exact ⟨rfl, B1.out⟩
  | true =>
    have hw9 : wtL l + 18 * l.length ≤ 9000 := hqf rfl
    have hn9 : n ≤ 500 := by have hl : l.length = n := HLEN.out; omega
    clear hqf
    obtain ⟨X, hX⟩ : ∃ X : Stm, X = ⟨base, snap, l⟩ := ⟨_, rfl⟩
    go_wp2_with (refine wpList_load_row rfl 79 (.tmp 3) rfl w.heap.size rfl 79 #[.string base, .string snap, .slice A n c] (0, 0) _ G1.out StmP.u79 rfl (i79 _ _ _) ?_)
    refine (put_calls ⟨base, snap, l⟩ A c n xs w1 (H.out.below B1.out) (by omega) (fun _ => by show wtL l ≤ 10000; omega)).mono ?_
    rintro e w2 ⟨v7, rfl, hr2, hb2⟩
    have G2 := Aside0.mk (blk_below G1.out hb2)
    have B2 := Aside0.mk (below_then B1.out B1.out.size hb2)
    rw [← hX] at hr2 ⊢
    have HXX := Aside0.mk hX
    have R2 := Aside0.mk (Kd.R_lower (base' := w.heap.size) hr2 B1.out.size)
    clear hr2 hb2 G1 B1 hX
    cases hrb : StmI.rightB X with
    | false =>
      have eo : outS X = [] := by rw [outS, hrb]; rfl
      rw [show codeS X = 2 by rw [codeS, hrb]; rfl]
      rw [eo] at R2
      obtain ⟨A7, c7, rfl, hle7, hC7⟩ := Kd.R_reads R2.out
      clear hrb eo R2 hle7 hC7
      go_wp2_with fail
      refine (put_calls oneS none 0 0 [] w2 ⟨Kd.C_nil _ _, rfl, fun i hi => absurd hi (Nat.not_lt_zero _)⟩ (by omega) (fun _ => Nat.zero_le _)).mono ?_
      rintro e w8 ⟨v13, rfl, hr8, hb8⟩
      rw [one_out] at hr8
      rw [one_code]
      obtain ⟨A13, c13, rfl, hle13, hC13⟩ := Kd.R_reads hr8
      rw [one_len]
      have B8 := Aside0.mk (below_then B2.out B2.out.size hb8)
      clear hr8 hb8 hle13 hC13
      go_wp2
      rw [HP.out]
      exact ⟨rfl, B8.out⟩
    | true =>
      have hRX : RightS X := by unfold StmI.rightB at hrb; simpa using hrb
      have eo : outS X = stmL X := by rw [outS, hrb]; rfl
      rw [show codeS X = 0 by rw [codeS, hrb]; rfl]
      rw [eo] at R2
      have h12 := stmL_ge X hRX
      have hle : (stmL X).length ≤ 10000 := stmL_le X hRX (by rw [HXX.out]; exact hw9)
      have HRX := Aside0.mk hRX
      obtain ⟨SL, hSL⟩ : ∃ SL, SL = stmL X := ⟨_, rfl⟩
      have HSL := Aside0.mk hSL
      have HBY := Aside0.mk (show Byt SL by rw [hSL]; exact stmL_byt X)
      have HOKS := Aside0.mk (show OkSum SL by rw [hSL]; exact stmL_ok X)
      rw [← hSL] at R2 h12 hle
      clear hrb eo hRX hSL
      obtain ⟨g7, c7, rfl, hg7, hg7lt, _⟩ := Kd.R_form R2.out (by omega)
      obtain ⟨_, hle7, hC7⟩ := Kd.R_reads' R2.out
      have HC7 := Aside0.mk hC7
      obtain ⟨lo, hlo⟩ : ∃ lo, lo = SL.length := ⟨_, rfl⟩
      rw [← hlo] at R2 h12 hle HC7 hle7 ⊢
      have HLO := Aside0.mk hlo
      clear hlo hC7
      go_wp2_with fail
      refine (readS_calls (some ⟨g7, 0, none⟩) c7 lo SL HLO.out w2 HC7.out HBY.out hle7 (by omega)).mono ?_
      intro e w6 ht
      obtain ⟨hb6, yb, ys, cs, code, vy, hres, rfl, hcell⟩ := norm_S ht
      rw [HSL.out] at hres
      obtain ⟨rfl, rfl, rfl, rfl⟩ := res_own HRX.out hres
      obtain ⟨Ay, cy, sly, rfl, hcr⟩ := hcell
      have e1 : X.base = base := by rw [HXX.out]
      have e2 : X.snap = snap := by rw [HXX.out]
      have e3 : X.l = l := by rw [HXX.out]
      rw [e3] at hcr
      rw [e1, e2, e3]
      have B6 := Aside0.mk (below_then B2.out B2.out.size hb6)
      have bal := below_alloc (Below.refl w6.heap.size w6) (.cells #[.string base, .string snap, .slice Ay l.length cy] 79)
      have B6b := Aside0.mk (below_then B6.out B6.out.size bal)
      have R6 := Aside0.mk (Kd.R_below (Kd.R_below R2.out hb6) bal)
      have G6 := Aside0.mk (blk_below (blk_below G2.out hb6) bal)
      have GY := Aside0.mk (blk_new w6 (.cells #[.string base, .string snap, .slice Ay l.length cy] 79))
      have CY := Aside0.mk (hcr.below bal)
      clear ht hb6 hres hcr bal B6 G2 B2 R2 HC7 e1 e2 e3
      go_wp2
      generalize hW6 : (w6.alloc (.cells #[.string base, .string snap, .slice Ay l.length cy] 79)) = W6 at *
      generalize hgy : w6.heap.size = gy at *
      clear hW6 hgy
      have dl12 : decide ((lo : Int) < 12) = false := decide_eq_false (by omega)
      have B7 := Aside0.mk (below_then B6b.out B6b.out.size (below_drew (Below.refl W6.heap.size W6)))
      have R7 := Aside0.mk (Kd.R_below R6.out (below_drew (Below.refl W6.heap.size W6)))
      have G7 := Aside0.mk (blk_below G6.out (below_drew (Below.refl W6.heap.size W6)))
      have GY7 := Aside0.mk (blk_below GY.out (below_drew (Below.refl W6.heap.size W6)))
      have CY7 := Aside0.mk (CY.out.below (below_drew (Below.refl W6.heap.size W6)))
      clear B6b R6 G6 GY CY
      refine wp_region_held_drew (S := fun w' => Below W6.drew.heap.size W6.drew w') (by kernel_rfl) (Below.refl _ _) (fun hW => ?_)
      generalize hW8 : W6.drew = W8 at *
      clear hW8
      refine wpAnyH_take (i := 0) (oi := ⟨some 46, _, _, _, _, _⟩) (v := .int .i64 0) rfl (by kernel_rfl) (by kernel_rfl) (by kernel_rfl) (fun _ _ _ h => h) (.inl ⟨by rfl, fun W1 h1 => by go_simp⟩) hW ?_
      try simp only [Act.put, List.setIfInBounds_toArray, List.set_cons_zero, List.set_cons_succ]
      refine wpAnyH_take (i := 1) (oi := ⟨some 47, _, _, _, _, _⟩) (v := .bool false) rfl (by kernel_rfl) (by kernel_rfl) (by kernel_rfl) (fun _ _ _ h => h) (.inl ⟨by rfl, fun W1 h1 => by go_simp⟩) hW ?_
      try simp only [Act.put, List.setIfInBounds_toArray, List.set_cons_zero, List.set_cons_succ]
      refine wpAnyH_take (i := 2) (oi := ⟨some 48, _, _, _, _, _⟩) (v := .bool false) rfl (by kernel_rfl) (by kernel_rfl) (by kernel_rfl) (fun _ _ _ h => h) (.inl ⟨by rfl, fun W1 h1 => by go_simp⟩) hW ?_
      try simp only [Act.put, List.setIfInBounds_toArray, List.set_cons_zero, List.set_cons_succ]
      refine wpAnyH_take (i := 3) (oi := ⟨some 49, _, _, _, _, _⟩) (v := .pointer (some ⟨gy, 0, none⟩)) rfl (by kernel_rfl) (by kernel_rfl) (by kernel_rfl) (fun _ _ _ h => h) (.inl ⟨by rfl, fun W1 h1 => by go_simp⟩) hW ?_
      try simp only [Act.put, List.setIfInBounds_toArray, List.set_cons_zero, List.set_cons_succ]
      refine wpAnyH_take (i := 4) (oi := ⟨some 50, _, _, _, _, _⟩) (v := .string base) rfl (by kernel_rfl) (by kernel_rfl) (by kernel_rfl) (fun _ _ _ h => h) (.inl ⟨by rfl, fun W1 h1 => by (have x1 : W1.cell? ⟨gy, 0, none⟩ = some (.string base) := (by rw [cell_of_row _ _ 0 _ 79 (0, 0) (blk_below GY7.out h1)]; rfl)); go_simp⟩) hW ?_
      try simp only [Act.put, List.setIfInBounds_toArray, List.set_cons_zero, List.set_cons_succ]
      refine wpAnyH_take (i := 5) (oi := ⟨some 51, _, _, _, _, _⟩) (v := .pointer (some ⟨w.heap.size, 0, none⟩)) rfl (by kernel_rfl) (by kernel_rfl) (by kernel_rfl) (fun _ _ _ h => h) (.inl ⟨by rfl, fun W1 h1 => by go_simp⟩) hW ?_
      try simp only [Act.put, List.setIfInBounds_toArray, List.set_cons_zero, List.set_cons_succ]
      refine wpAnyH_take (i := 6) (oi := ⟨some 52, _, _, _, _, _⟩) (v := .string base) rfl (by kernel_rfl) (by kernel_rfl) (by kernel_rfl) (fun _ _ _ h => h) (.inl ⟨by rfl, fun W1 h1 => by (have x1 : W1.cell? ⟨w.heap.size, 0, none⟩ = some (.string base) := (by rw [cell_of_row _ _ 0 _ 79 (0, 0) (blk_below G7.out h1)]; rfl)); go_simp⟩) hW ?_
      try simp only [Act.put, List.setIfInBounds_toArray, List.set_cons_zero, List.set_cons_succ]
      refine wpAnyH_take (i := 7) (oi := ⟨some 53, _, _, _, _, _⟩) (v := .bool false) rfl (by kernel_rfl) (by kernel_rfl) (by kernel_rfl) (fun _ _ _ h => h) (.inl ⟨by rfl, fun W1 h1 => by go_simp⟩) hW ?_
      try simp only [Act.put, List.setIfInBounds_toArray, List.set_cons_zero, List.set_cons_succ]
      refine wpAnyH_take (i := 8) (oi := ⟨some 54, _, _, _, _, _⟩) (v := .bool false) rfl (by kernel_rfl) (by kernel_rfl) (by kernel_rfl) (fun _ _ _ h => h) (.inl ⟨by rfl, fun W1 h1 => by go_simp⟩) hW ?_
      try simp only [Act.put, List.setIfInBounds_toArray, List.set_cons_zero, List.set_cons_succ]
      refine wpAnyH_take (i := 9) (oi := ⟨some 55, _, _, _, _, _⟩) (v := .bool false) rfl (by kernel_rfl) (by kernel_rfl) (by kernel_rfl) (fun _ _ _ h => h) (.inl ⟨by rfl, fun W1 h1 => by go_simp⟩) hW ?_
      try simp only [Act.put, List.setIfInBounds_toArray, List.set_cons_zero, List.set_cons_succ]
      refine wpAnyH_take (i := 10) (oi := ⟨some 56, _, _, _, _, _⟩) (v := .pointer (some ⟨gy, 1, none⟩)) rfl (by kernel_rfl) (by kernel_rfl) (by kernel_rfl) (fun _ _ _ h => h) (.inl ⟨by rfl, fun W1 h1 => by go_simp⟩) hW ?_
      try simp only [Act.put, List.setIfInBounds_toArray, List.set_cons_zero, List.set_cons_succ]
      refine wpAnyH_take (i := 11) (oi := ⟨some 57, _, _, _, _, _⟩) (v := .string snap) rfl (by kernel_rfl) (by kernel_rfl) (by kernel_rfl) (fun _ _ _ h => h) (.inl ⟨by rfl, fun W1 h1 => by (have x1 : W1.cell? ⟨gy, 1, none⟩ = some (.string snap) := (by rw [cell_of_row _ _ 1 _ 79 (0, 0) (blk_below GY7.out h1)]; rfl)); go_simp⟩) hW ?_
      try simp only [Act.put, List.setIfInBounds_toArray, List.set_cons_zero, List.set_cons_succ]
      refine wpAnyH_take (i := 12) (oi := ⟨some 58, _, _, _, _, _⟩) (v := .pointer (some ⟨w.heap.size, 1, none⟩)) rfl (by kernel_rfl) (by kernel_rfl) (by kernel_rfl) (fun _ _ _ h => h) (.inl ⟨by rfl, fun W1 h1 => by go_simp⟩) hW ?_
      try simp only [Act.put, List.setIfInBounds_toArray, List.set_cons_zero, List.set_cons_succ]
      refine wpAnyH_take (i := 13) (oi := ⟨some 59, _, _, _, _, _⟩) (v := .string snap) rfl (by kernel_rfl) (by kernel_rfl) (by kernel_rfl) (fun _ _ _ h => h) (.inl ⟨by rfl, fun W1 h1 => by (have x1 : W1.cell? ⟨w.heap.size, 1, none⟩ = some (.string snap) := (by rw [cell_of_row _ _ 1 _ 79 (0, 0) (blk_below G7.out h1)]; rfl)); go_simp⟩) hW ?_
      try simp only [Act.put, List.setIfInBounds_toArray, List.set_cons_zero, List.set_cons_succ]
      refine wpAnyH_take (i := 14) (oi := ⟨some 60, _, _, _, _, _⟩) (v := .bool false) rfl (by kernel_rfl) (by kernel_rfl) (by kernel_rfl) (fun _ _ _ h => h) (.inl ⟨by rfl, fun W1 h1 => by go_simp⟩) hW ?_
      try simp only [Act.put, List.setIfInBounds_toArray, List.set_cons_zero, List.set_cons_succ]
      refine wpAnyH_take (i := 15) (oi := ⟨some 61, _, _, _, _, _⟩) (v := .bool false) rfl (by kernel_rfl) (by kernel_rfl) (by kernel_rfl) (fun _ _ _ h => h) (.inl ⟨by rfl, fun W1 h1 => by go_simp⟩) hW ?_
      try simp only [Act.put, List.setIfInBounds_toArray, List.set_cons_zero, List.set_cons_succ]
      refine wpAnyH_take (i := 16) (oi := ⟨some 62, _, _, _, _, _⟩) (v := .bool false) rfl (by kernel_rfl) (by kernel_rfl) (by kernel_rfl) (fun _ _ _ h => h) (.inl ⟨by rfl, fun W1 h1 => by go_simp⟩) hW ?_
      try simp only [Act.put, List.setIfInBounds_toArray, List.set_cons_zero, List.set_cons_succ]
      refine wpAnyH_take (i := 17) (oi := ⟨some 63, _, _, _, _, _⟩) (v := .pointer (some ⟨gy, 2, none⟩)) rfl (by kernel_rfl) (by kernel_rfl) (by kernel_rfl) (fun _ _ _ h => h) (.inl ⟨by rfl, fun W1 h1 => by go_simp⟩) hW ?_
      try simp only [Act.put, List.setIfInBounds_toArray, List.set_cons_zero, List.set_cons_succ]
      refine wpAnyH_take (i := 18) (oi := ⟨some 64, _, _, _, _, _⟩) (v := .slice Ay l.length cy) rfl (by kernel_rfl) (by kernel_rfl) (by kernel_rfl) (fun _ _ _ h => h) (.inl ⟨by rfl, fun W1 h1 => by (have x1 : W1.cell? ⟨gy, 2, none⟩ = some (.slice Ay l.length cy) := (by rw [cell_of_row _ _ 2 _ 79 (0, 0) (blk_below GY7.out h1)]; rfl)); go_simp⟩) hW ?_
      try simp only [Act.put, List.setIfInBounds_toArray, List.set_cons_zero, List.set_cons_succ]
      refine wpAnyH_take (i := 20) (oi := ⟨some 66, _, _, _, _, _⟩) (v := .pointer (some ⟨w.heap.size, 2, none⟩)) rfl (by kernel_rfl) (by kernel_rfl) (by kernel_rfl) (fun _ _ _ h => h) (.inl ⟨by rfl, fun W1 h1 => by go_simp⟩) hW ?_
      try simp only [Act.put, List.setIfInBounds_toArray, List.set_cons_zero, List.set_cons_succ]
      refine wpAnyH_take (i := 21) (oi := ⟨some 67, _, _, _, _, _⟩) (v := .slice A n c) rfl (by kernel_rfl) (by kernel_rfl) (by kernel_rfl) (fun _ _ _ h => h) (.inl ⟨by rfl, fun W1 h1 => by (have x1 : W1.cell? ⟨w.heap.size, 2, none⟩ = some (.slice A n c) := (by rw [cell_of_row _ _ 2 _ 79 (0, 0) (blk_below G7.out h1)]; rfl)); go_simp⟩) hW ?_
      try simp only [Act.put, List.setIfInBounds_toArray, List.set_cons_zero, List.set_cons_succ]
      refine wpAnyH_ready (rs := [19]) (by kernel_rfl) (by simp) (AllReadyH.cons rfl (fun K3 hK3 => ?_) AllReadyH.nil)
      go_simp
      refine (own_calls Ay cy l.length sly l _ (CY7.out.below hW) (by have hl : l.length = n := HLEN.out; omega)).mono ?_
      rintro e w9 ⟨v87, rfl, hr9, hb9⟩
      obtain ⟨A87, c87, rfl, hle87, hC87⟩ := Kd.R_reads hr9
      have HC87 := Aside0.mk hC87
      have hW9 := below_then hW hW.size hb9
      clear hr9 hle87 hC87
      refine hK3.out _ _ hW9 (fun hW => ?_)
      try simp only [Act.put, List.setIfInBounds_toArray, List.set_cons_zero, List.set_cons_succ]
      refine wpAnyH_ready (rs := [22]) (by kernel_rfl) (by simp) (AllReadyH.cons rfl (fun K4 hK4 => ?_) AllReadyH.nil)
      go_simp
      refine (own_calls A c n xs l w9 (H.out.below (below_then B7.out B7.out.size hW)) (by omega)).mono ?_
      rintro e w10 ⟨v88, rfl, hr10, hb10⟩
      obtain ⟨A88, c88, rfl, hle88, hC88⟩ := Kd.R_reads hr10
      have HC88 := Aside0.mk hC88
      have HC89 := Aside0.mk (Kd.C_below HC87.out hb10)
      have hW10 := below_then hW hW.size hb10
      clear hr10 hle88 hC88
      refine hK4.out _ _ hW10 (fun hW => ?_)
      try simp only [Act.put, List.setIfInBounds_toArray, List.set_cons_zero, List.set_cons_succ]
      refine wpAnyH_ready (rs := [23]) (by kernel_rfl) (by simp) (AllReadyH.cons rfl (fun K5 hK5 => ?_) AllReadyH.nil)
      go_simp
      refine (same_calls A87 A88 c87 c88 l.length l w10 HC89.out HC88.out (by have hl : l.length = n := HLEN.out; omega)).mono ?_
      rintro e w11 ⟨rfl, hb11⟩
      have hW11 := below_then hW hW.size hb11
      refine hK5.out _ _ hW11 (fun hW => ?_)
      try simp only [Act.put, List.setIfInBounds_toArray, List.set_cons_zero, List.set_cons_succ]
      refine wpAnyH_take (i := 24) (oi := ⟨some 70, _, _, _, _, _⟩) (v := .bool false) rfl (by kernel_rfl) (by kernel_rfl) (by kernel_rfl) (fun _ _ _ h => h) (.inl ⟨by rfl, fun W1 h1 => by go_simp⟩) hW ?_
      try simp only [Act.put, List.setIfInBounds_toArray, List.set_cons_zero, List.set_cons_succ]
      refine wpAnyH_take (i := 25) (oi := ⟨some 71, _, _, _, _, _⟩) (v := .bool false) rfl (by kernel_rfl) (by kernel_rfl) (by kernel_rfl) (fun _ _ _ h => h) (.inl ⟨by rfl, fun W1 h1 => by go_simp⟩) hW ?_
      try simp only [Act.put, List.setIfInBounds_toArray, List.set_cons_zero, List.set_cons_succ]
      refine wpAnyH_take (i := 26) (oi := ⟨some 72, _, _, _, _, _⟩) (v := .bool false) rfl (by kernel_rfl) (by kernel_rfl) (by kernel_rfl) (fun _ _ _ h => h) (.inl ⟨by rfl, fun W1 h1 => by go_simp⟩) hW ?_
      try simp only [Act.put, List.setIfInBounds_toArray, List.set_cons_zero, List.set_cons_succ]
      refine wpAnyH_take (i := 27) (oi := ⟨some 73, _, _, _, _, _⟩) (v := .slice (some ⟨g7, 0, none⟩) lo c7) rfl (by kernel_rfl) (by kernel_rfl) (by kernel_rfl) (fun _ _ _ h => h) (.inl ⟨by rfl, fun W1 h1 => by go_simp⟩) hW ?_
      try simp only [Act.put, List.setIfInBounds_toArray, List.set_cons_zero, List.set_cons_succ]
      refine wpAnyH_take (i := 28) (oi := ⟨some 74, _, _, _, _, _⟩) (v := .int .i64 (lo : Int)) rfl (by kernel_rfl) (by kernel_rfl) (by kernel_rfl) (fun _ _ _ h => h) (.inl ⟨by rfl, fun W1 h1 => by go_simp⟩) hW ?_
      try simp only [Act.put, List.setIfInBounds_toArray, List.set_cons_zero, List.set_cons_succ]
      refine wpAnyH_take (i := 29) (oi := ⟨some 75, _, _, _, _, _⟩) (v := .bool false) rfl (by kernel_rfl) (by kernel_rfl) (by kernel_rfl) (fun _ _ _ h => h) (.inl ⟨by rfl, fun W1 h1 => by go_simp⟩) hW ?_
      try simp only [Act.put, List.setIfInBounds_toArray, List.set_cons_zero, List.set_cons_succ]
      refine wpAnyH_take (i := 30) (oi := ⟨some 76, _, _, _, _, _⟩) (v := .bool false) rfl (by kernel_rfl) (by kernel_rfl) (by kernel_rfl) (fun _ _ _ h => h) (.inl ⟨by rfl, fun W1 h1 => by go_simp⟩) hW ?_
      try simp only [Act.put, List.setIfInBounds_toArray, List.set_cons_zero, List.set_cons_succ]
      refine wpAnyH_done (by kernel_rfl) ?_ _
      have B9 := Aside0.mk (below_then B7.out B7.out.size hW)
      have R9 := Aside0.mk (Kd.R_below R7.out hW)
      clear hW hW9 hW10 hW11 hb9 hb10 hb11 hK3 hK4 hK5 K3 K4 K5 HC87 HC88 HC89 B7 R7 G7 GY7 CY7
      obtain ⟨r, hr⟩ : ∃ r, at'.tmod (8 * (lo : Int) - 31) = r := ⟨_, rfl⟩
      have hrb : -(8 * (lo : Int) - 31) < r ∧ r < 8 * (lo : Int) - 31 := by
        have h1 := Int.natAbs_tmod at' (8 * (lo : Int) - 31)
        have h2 : at'.natAbs % (8 * (lo : Int) - 31).natAbs < (8 * (lo : Int) - 31).natAbs := Nat.mod_lt _ (by omega)
        rw [hr] at h1
        omega
      obtain ⟨a', ha'⟩ : ∃ a' : Nat, (r + (8 * (lo : Int) - 31)).tmod (8 * (lo : Int) - 31) = (a' : Int) := by
        rw [Int.tmod_eq_emod_of_nonneg (by omega)]
        exact ⟨((r + (8 * (lo : Int) - 31)) % (8 * (lo : Int) - 31)).toNat, by
          have := Int.emod_nonneg (r + (8 * (lo : Int) - 31)) (show (8 * (lo : Int) - 31) ≠ 0 by omega)
          omega⟩
      have hab : (a' : Int) < 8 * (lo : Int) - 31 := by
        rw [← ha', Int.tmod_eq_emod_of_nonneg (by omega)]
        exact Int.emod_lt_of_pos _ (by omega)
      have hw64 : wrap64 (r + (8 * (lo : Int) - 31)) = r + (8 * (lo : Int) - 31) := IntWalk.wrap64_in _ (by omega)
      have hbits : (8 * (lo : Int) - 31) ≠ 0 := by omega
      go_wp2
      clear hr ha' hw64 hrb hbits
      go_loopw [13] (fun v13 wr => ∃ (i : Nat), v13 = .int .i64 (i : Int) ∧ i ≤ 32 ∧ Aside0 (Kd.R (Kd.int .u8) 5 wr w.heap.size (fun _ => True) (.slice (some ⟨g7, 0, none⟩) lo c7) (flipsL SL a' by' i)) ∧ Aside0 (Below w.heap.size w wr)) (fun v _ => 32 - (intOf v).toNat)
      case atStart => exact ⟨0, rfl, by omega, R9, B9⟩
      case round =>
        obtain ⟨i, rfl, hi, HR, HB⟩ := hrel
        clear R9 B9
        by_cases hlt : i < 32
        · have di : decide ((i : Int) < 32) = true := decide_eq_true (by omega)
          obtain ⟨cur, hcur⟩ : ∃ cur, cur = flipsL SL a' by' i := ⟨_, rfl⟩
          have HCUR := Aside0.mk hcur
          have hbc : Byt cur := by rw [hcur]; exact flipsL_byt HBY.out _ _ _
          have hlc : cur.length = lo := by rw [hcur, flipsL_len]; exact HLO.out.symm
          rw [← hcur] at HR
          have hk : (a' + i) / 8 < lo := by omega
          have hcell := Kd.R_celln 0 HR.out (((a' + i) / 8 : Nat) : Int) (by omega) (by omega)
          rw [Int.toNat_natCast] at hcell
          have hput := Aside0.mk (fun x => Kd.R_putn HR.out (((a' + i) / 8 : Nat) : Int) x)
          obtain ⟨q, hq, hqv⟩ : ∃ q : Nat, q < 256 ∧ cur.getD ((a' + i) / 8) 0 = (q : Int) := ⟨(cur.getD ((a' + i) / 8) 0).toNat, by have := hbc.getD ((a' + i) / 8); omega, by have := hbc.getD ((a' + i) / 8); omega⟩
          have HQ := Aside0.mk hqv
          have xq : wr.cell? ⟨g7, (a' + i) / 8, none⟩ = some (.int .u8 (q : Int)) := by rw [hcell.1]; simp only [rdOf]; rw [Int.toNat_natCast, hqv]
          have fq := hcell.2
          clear hcell hqv hbc hcur
          cases hbt : by'.testBit i with
          | true =>
            have hb1 : (bits .and .u32 ((by' : Int) / 2 ^ i) 1 == 1) = true := by rw [bit_at _ _ hby, hbt]
            have HBT := Aside0.mk hbt
            clear hbt
            go_wp2
            go_roundw
            case rel =>
              refine ⟨i + 1, by go_num, by omega, ⟨?_⟩, ⟨HB.out.setCell hg7 _⟩⟩
              have hx := bits_xor_u8 q ((a' + i) % 8) hq (Nat.mod_lt _ (by decide))
              have h1 := hput.out ((q ^^^ 2 ^ ((a' + i) % 8) : Nat) : Int)
              rw [Int.toNat_natCast] at h1
              rw [hx, flipsL, HBT.out, if_pos rfl, ← HCUR.out, flipL, HQ.out, Int.toNat_natCast]
              exact h1
            case measure => simp [intOf]; omega
          | false =>
            have hb1 : (bits .and .u32 ((by' : Int) / 2 ^ i) 1 == 1) = false := by rw [bit_at _ _ hby, hbt]
            have HN := Aside0.mk (show flipsL SL a' by' (i + 1) = cur by rw [flipsL, hbt]; simp [HCUR.out])
            clear hbt xq fq
            go_wp2
            go_roundw
            case rel =>
              refine ⟨i + 1, by go_num, by omega, ?_, HB⟩
              rw [HN.out]
              exact HR
            case measure => simp [intOf]; omega
        · have di : decide ((i : Int) < 32) = false := decide_eq_false (by omega)
          have HI := Aside0.mk (show i = 32 by omega)
          rw [HI.out] at HR
          clear hi hlt
          have hfl : (flipsL SL a' by' 32).length = lo := by rw [flipsL_len]; exact HLO.out.symm
          have HFB := Aside0.mk (flipsL_byt HBY.out a' by' 32)
          have HZ := Aside0.mk (fun h : by' = 0 => show flipsL SL a' by' 32 = SL by rw [h]; exact flipsL_zero SL a' 32)
          have HBD := Aside0.mk (fun h : by' ≠ 0 => flips_bad (at' := a') (by' := by') HBY.out (by have := HLO.out; omega) HOKS.out (by have := HLO.out; omega) hby h)
          generalize flipsL SL a' by' 32 = FL at *
          obtain ⟨hq8, hle8, hC8⟩ := Kd.R_reads' HR.out
          clear hq8
          have HC8 := Aside0.mk hC8
          rw [hfl] at HC8
          clear hC8 hle8
          go_wp2_with fail
          refine (readS_calls (some ⟨g7, 0, none⟩) c7 lo FL hfl.symm wr HC8.out HFB.out hle7 (by omega)).mono ?_
          intro e w12 ht
          obtain ⟨hb12, yb, ys, cs, code, vy, hres, rfl, hcell⟩ := norm_S ht
          have BE := Aside0.mk (below_then HB.out HB.out.size hb12)
          clear ht hb12 hcell
          by_cases h0 : by' = 0
          · rw [HZ.out h0, HSL.out] at hres
            subst h0
            clear HZ HBD
            obtain ⟨_, _, _, rfl⟩ := res_own HRX.out hres
            clear hres
            go_wp2
            rw [HP.out]
            exact ⟨rfl, BE.out⟩
          · obtain rfl := res_bad (by rw [hfl]; omega) (HBD.out h0) hres
            have hb0 : ((by' : Int) == 0) = false := by simp; exact h0
            clear hres h0 HZ HBD
            go_wp2
            rw [HP.out]
            exact ⟨rfl, BE.out⟩
end Go.Proofs.Ytfefpbnhpncmlaa.StmBack
namespace Go.Proofs.YtfefpbnhpncmlaaW.Opens
open Go.RowKit Go.Proofs.YtfefpbnhpncmlaaW.PrintWords
set_option linter.unusedVariables false

/-- Whatever of type t can be read as data is of kind d, and G. -/
def Opens {α : Type} (P : Program) (t : TypeId) (d : Kd α) (G : α → Prop) : Prop :=
  ∀ (H : Type) (enc : TypeId × Value → H) (w : World) (base : Nat) (spare : Nat → Bool) (held : Bool) (n : Nat) (cs : List Value) (x : DataW H × List MemPlace),
    DataW.trod enc P w base spare held n t cs = some x → ∃ a, d.K w a cs ∧ G a

theorem opens_int {P : Program} {t : TypeId} {k : IntKind} (ht : P.underlying t = some (.int k)) : Opens P t (Kd.int k) (fun n => (Lit.int k n).wf = true) := by
  intro H enc w base spare held n cs x h
  obtain ⟨m, rfl, _, hw⟩ := DataW.trod_int ht h
  exact ⟨m, rfl, hw⟩

theorem opens_bool {P : Program} {t : TypeId} (ht : P.underlying t = some .bool) : Opens P t Kd.bool (fun _ => True) := by
  intro H enc w base spare held n cs x h
  obtain ⟨m, rfl, _⟩ := DataW.trod_bool ht h
  exact ⟨m, rfl, trivial⟩

theorem opens_string {P : Program} {t : TypeId} (ht : P.underlying t = some .string) : Opens P t Kd.string (fun s => s.size ≤ maxLen) := by
  intro H enc w base spare held n cs x h
  obtain ⟨s, rfl, _, hs⟩ := DataW.trod_string ht h
  exact ⟨s, rfl, hs⟩

theorem add_add (a : Addr) (i j : Nat) : (a.add i).add j = a.add (i + j) := Go.Deep.add_add a i j

theorem opens_slice {α : Type} {P : Program} {t e : TypeId} {d : Kd α} {G : α → Prop} (ht : P.underlying t = some (.slice e)) (hs : P.cellsOf e = d.sz) (he : Opens P e d G) :
    Opens P t (Kd.slice e d) (fun l => ∀ x ∈ l, G x) := by
  intro H enc w base spare held n cs x h
  rcases Go.Deep.open_slice ht h with ⟨rfl, rfl⟩ | ⟨a, len, cap, m, k, D, Pl, rfl, hb, hl, hm, hmm, rfl, hx⟩
  · exact ⟨[], ⟨none, 0, rfl, Nat.le_refl _, Kd.C_nil _ _⟩, by simp⟩
  · have hlm : len ≤ m := by rw [hmm]; split <;> omega
    have each : ∀ i, i < len → ∃ y : α, (∃ c, c.length = d.sz ∧ d.K w y c ∧ ∀ (j : Nat) (u : Value), c[j]? = some u → w.cell? (a.add (i * d.sz + j)) = some u) ∧ G y := by
      intro i hi
      obtain ⟨cs', h1, h2⟩ := hx i (by omega)
      rw [hs] at h1
      obtain ⟨_, hlen, hcell⟩ := World.cells?_some h1
      obtain ⟨y, hy, hg⟩ := he H enc w base spare held k cs' _ h2
      refine ⟨y, ⟨cs', hlen, hy, fun j u hu => ?_⟩, hg⟩
      have hj : j < d.sz := by
        have := (List.getElem?_eq_some_iff.1 hu).1
        omega
      have := hcell j hj
      rw [add_add] at this
      rw [this]
      exact hu
    by_cases h0 : len = 0
    · subst h0
      exact ⟨[], ⟨some a, cap, rfl, Nat.zero_le _, rfl, by simp, fun h => absurd h (Nat.lt_irrefl 0)⟩, by simp⟩
    · have : Nonempty α := ⟨(each 0 (by omega)).choose⟩
      have : Inhabited α := Classical.inhabited_of_nonempty this
      obtain ⟨f, hf⟩ := Go.Deep.choose_lt each
      refine ⟨(List.range len).map f, ⟨some a, cap, by simp, by simpa using hl, by simp, by unfold maxLen at hm; simp; omega, fun _ => ⟨a, rfl, ?_⟩⟩, ?_⟩
      · intro j p hj
        have hjl : j < len := by have := (List.getElem?_eq_some_iff.1 hj).1; simpa using this
        have : f j = p := by
          rw [List.getElem?_map, List.getElem?_range hjl] at hj
          simpa using hj
        subst this
        exact (hf j hjl).1
      · intro x hx
        obtain ⟨i, hi, rfl⟩ := List.mem_map.1 hx
        exact (hf i (List.mem_range.1 hi)).2

/-- A struct's fields from one on, that lie side by side. -/
def OpensF {α : Type} (P : Program) (fs : List Field) (off : Nat) (d : Kd α) (G : α → Prop) : Prop :=
  ∀ (H : Type) (enc : TypeId × Value → H) (w : World) (base : Nat) (spare : Nat → Bool) (held : Bool) (n : Nat) (cs : List Value) (xs : List (DataW H × List MemPlace)),
    xs.length = fs.length → cs.length = off + d.sz → (∀ (i : Nat) (f : Field), fs[i]? = some f → DataW.trod enc P w base spare held n f.type ((cs.drop f.offset).take (P.cellsOf f.type)) = xs[i]?) → ∃ a, d.K w a (cs.drop off) ∧ G a

theorem opensF_last {α : Type} {P : Program} {f : Field} {off : Nat} {d : Kd α} {G : α → Prop} (o : f.offset = off) (s : P.cellsOf f.type = d.sz) (h : Opens P f.type d G) : OpensF P [f] off d G := by
  intro H enc w base spare held n cs xs hxl hcl hf
  have g := hf 0 f rfl
  rw [List.getElem?_eq_getElem (by rw [hxl]; simp)] at g
  obtain ⟨y, k, q⟩ := h _ _ _ _ _ _ _ _ _ g
  refine ⟨y, ?_, q⟩
  have : (cs.drop off).take d.sz = cs.drop off := List.take_of_length_le (by simp; omega)
  rwa [o, s, this] at k

theorem opensF_cons {α β : Type} {P : Program} {f : Field} {fs : List Field} {off : Nat} {d0 : Kd α} {d1 : Kd β} {G0 : α → Prop} {G1 : β → Prop} (o : f.offset = off) (s : P.cellsOf f.type = d0.sz) (h0 : Opens P f.type d0 G0) (h1 : OpensF P fs (off + d0.sz) d1 G1) :
    OpensF P (f :: fs) off (Kd.pair d0 d1) (fun x => G0 x.1 ∧ G1 x.2) := by
  intro H enc w base spare held n cs xs hxl hcl hf
  have hcl' : cs.length = off + (d0.sz + d1.sz) := hcl
  have g := hf 0 f rfl
  rw [List.getElem?_eq_getElem (by rw [hxl]; simp)] at g
  obtain ⟨y, k, q⟩ := h0 _ _ _ _ _ _ _ _ _ g
  match xs, hxl with
  | x :: xs, hxl =>
    obtain ⟨z, k1, q1⟩ := h1 H enc w base spare held n cs xs (by simpa using hxl) (by omega) (fun i f hi => by simpa using hf (i + 1) f (by simpa using hi))
    refine ⟨(y, z), ⟨_, _, ?_, k, k1⟩, q, q1⟩
    rw [o, s, ← List.drop_drop, List.take_append_drop]

theorem opens_struct {α : Type} {P : Program} {t : TypeId} {fs : Array Field} {d : Kd α} {G : α → Prop} (ht : P.underlying t = some (.struct fs)) (hs : P.cellsOf t = d.sz) (h : OpensF P fs.toList 0 d G) : Opens P t d G := by
  intro H enc w base spare held n cs x hx
  obtain ⟨xs, k, _, _, hl, hxl, hf⟩ := DataW.trod_struct ht hx
  obtain ⟨a, hk, hg⟩ := h H enc w base spare held k cs xs (by simpa using hxl) (by omega) (fun i f hi => hf i f (by simpa using hi))
  exact ⟨a, by simpa using hk, hg⟩

theorem opens_mono {α : Type} {P : Program} {t : TypeId} {d : Kd α} {G G' : α → Prop} (h : Opens P t d G) (hg : ∀ a, G a → G' a) : Opens P t d G' := by
  intro H enc w base spare held n cs x hx
  obtain ⟨a, hk, h2⟩ := h H enc w base spare held n cs x hx
  exact ⟨a, hk, hg a h2⟩

end Go.Proofs.YtfefpbnhpncmlaaW.Opens
namespace Go.Proofs.Ytfefpbnhpncmlaa.CatZ
open Go.RowKit Go.Proofs.YtfefpbnhpncmlaaW.PrintWords Go.Proofs.YtfefpbnhpncmlaaW.Opens Go.Proofs.Ytfefpbnhpncmlaa.CatK Go.Proofs.Ytfefpbnhpncmlaa.CodL Go.Proofs.Ytfefpbnhpncmlaa.CatL Go.Proofs.Ytfefpbnhpncmlaa.PtrE Go.Proofs.Ytfefpbnhpncmlaa.B8
set_option linter.unusedVariables false

theorem byte_wf {x : Int} (h : (Lit.int .u8 x).wf = true) : 0 ≤ x ∧ x < 256 := by
  have : 0 ≤ x ∧ x ≤ 255 := by simpa [Lit.wf, IntKind.min, IntKind.max, IntKind.signed, IntKind.bits] using h
  omega
theorem u32_wf {x : Int} (h : (Lit.int .u32 x).wf = true) : 0 ≤ x ∧ x < 4294967296 := by
  have : 0 ≤ x ∧ x ≤ 4294967295 := by simpa [Lit.wf, IntKind.min, IntKind.max, IntKind.signed, IntKind.bits] using h
  omega
theorem cells5 : Try.prog.cellsOf 5 = 1 := by kernel_rfl
theorem cells31 : Try.prog.cellsOf 31 = 1 := by kernel_rfl
theorem opens31 : Opens Try.prog 31 (Kd.slice 5 (Kd.int .u8)) (fun l => Byt l) := opens_mono (opens_slice Try.underlying31 (by rw [cells5]; rfl) (opens_int Try.underlying5)) (fun l h x hx => byte_wf (h x hx))
end Go.Proofs.Ytfefpbnhpncmlaa.CatZ
namespace Go.Proofs.Ytfefpbnhpncmlaa.EntH
open Go.RowKit Go.Proofs.Ytfefpbnhpncmlaa.EntL Go.Proofs.Ytfefpbnhpncmlaa.EntB Go.Proofs.Ytfefpbnhpncmlaa.EntC Go.Proofs.Ytfefpbnhpncmlaa.EntD Go.Proofs.Ytfefpbnhpncmlaa.EntE Go.Proofs.Ytfefpbnhpncmlaa.EntF Go.Proofs.Ytfefpbnhpncmlaa.EntG Go.Proofs.Ytfefpbnhpncmlaa.CatR Go.Proofs.Ytfefpbnhpncmlaa.CatT Go.Proofs.Ytfefpbnhpncmlaa.CatU Go.Proofs.Ytfefpbnhpncmlaa.CatV Go.Proofs.Ytfefpbnhpncmlaa.CatK Go.Proofs.Ytfefpbnhpncmlaa.CatS Go.Proofs.Ytfefpbnhpncmlaa.CatY Go.Proofs.Ytfefpbnhpncmlaa.RefG Go.Proofs.Ytfefpbnhpncmlaa.PtrB Go.Proofs.Ytfefpbnhpncmlaa.PtrG Go.Proofs.Ytfefpbnhpncmlaa.Agg Go.Proofs.Ytfefpbnhpncmlaa.B8 Go.Proofs.Ytfefpbnhpncmlaa.CodL Go.Proofs.Ytfefpbnhpncmlaa.CodA Go.Proofs.Ytfefpbnhpncmlaa.CodB Go.Proofs.Ytfefpbnhpncmlaa.CatL Go.Proofs.Ytfefpbnhpncmlaa.PtrA Go.Proofs.Ytfefpbnhpncmlaa.PtrE Go.Proofs.Ytfefpbnhpncmlaa.PtrF Go.Proofs.Ytfefpbnhpncmlaa.PBaseSigns Go.Proofs.YtfefpbnhpncmlaaW.PrintWords Go.Proofs.YtfefpbnhpncmlaaW.PrintLast Go.Proofs.YtfefpbnhpncmlaaW.PrintMore
set_option linter.unusedVariables false
set_option linter.unusedSimpArgs false

end Go.Proofs.Ytfefpbnhpncmlaa.EntH
namespace Go.Proofs.Ytfefpbnhpncmlaa.EntI
open Go.RowKit Go.Proofs.Ytfefpbnhpncmlaa.EntL Go.Proofs.Ytfefpbnhpncmlaa.EntB Go.Proofs.Ytfefpbnhpncmlaa.EntC Go.Proofs.Ytfefpbnhpncmlaa.EntD Go.Proofs.Ytfefpbnhpncmlaa.EntE Go.Proofs.Ytfefpbnhpncmlaa.EntF Go.Proofs.Ytfefpbnhpncmlaa.EntH Go.Proofs.Ytfefpbnhpncmlaa.CatR Go.Proofs.Ytfefpbnhpncmlaa.CatT Go.Proofs.Ytfefpbnhpncmlaa.CatU Go.Proofs.Ytfefpbnhpncmlaa.CatV Go.Proofs.Ytfefpbnhpncmlaa.CatX Go.Proofs.Ytfefpbnhpncmlaa.CatK Go.Proofs.Ytfefpbnhpncmlaa.CatS Go.Proofs.Ytfefpbnhpncmlaa.CatY Go.Proofs.Ytfefpbnhpncmlaa.RefG Go.Proofs.Ytfefpbnhpncmlaa.PtrB Go.Proofs.Ytfefpbnhpncmlaa.PtrG Go.Proofs.Ytfefpbnhpncmlaa.Agg Go.Proofs.Ytfefpbnhpncmlaa.B8 Go.Proofs.Ytfefpbnhpncmlaa.CodL Go.Proofs.Ytfefpbnhpncmlaa.CodA Go.Proofs.Ytfefpbnhpncmlaa.CodB Go.Proofs.Ytfefpbnhpncmlaa.CatL Go.Proofs.Ytfefpbnhpncmlaa.PtrA Go.Proofs.Ytfefpbnhpncmlaa.PtrE Go.Proofs.Ytfefpbnhpncmlaa.PtrF Go.Proofs.Ytfefpbnhpncmlaa.PBaseSigns Go.Proofs.YtfefpbnhpncmlaaW.PrintWords Go.Proofs.YtfefpbnhpncmlaaW.PrintLast Go.Proofs.YtfefpbnhpncmlaaW.PrintMore
set_option linter.unusedVariables false
set_option linter.unusedSimpArgs false

end Go.Proofs.Ytfefpbnhpncmlaa.EntI
namespace Go.Proofs.Ytfefpbnhpncmlaa.EntJ
open Go.RowKit Go.Proofs.Ytfefpbnhpncmlaa.EntL Go.Proofs.Ytfefpbnhpncmlaa.EntB Go.Proofs.Ytfefpbnhpncmlaa.EntC Go.Proofs.Ytfefpbnhpncmlaa.EntD Go.Proofs.Ytfefpbnhpncmlaa.EntE Go.Proofs.Ytfefpbnhpncmlaa.EntF Go.Proofs.Ytfefpbnhpncmlaa.EntH Go.Proofs.Ytfefpbnhpncmlaa.EntI Go.Proofs.Ytfefpbnhpncmlaa.CatU Go.Proofs.Ytfefpbnhpncmlaa.CatK Go.Proofs.Ytfefpbnhpncmlaa.B8 Go.Proofs.Ytfefpbnhpncmlaa.CodL Go.Proofs.Ytfefpbnhpncmlaa.CatL Go.Proofs.Ytfefpbnhpncmlaa.PtrA Go.Proofs.Ytfefpbnhpncmlaa.PtrE Go.Proofs.Ytfefpbnhpncmlaa.PtrF
set_option linter.unusedVariables false
set_option linter.unusedSimpArgs false

theorem agg9 (w : World) : (isAgg 9).run Try.prog w = .ok false w := by kernel_rfl
end Go.Proofs.Ytfefpbnhpncmlaa.EntJ
namespace Go.Proofs.Ytfefpbnhpncmlaa.EntZ
open Go.RowKit Go.Proofs.YtfefpbnhpncmlaaW.PrintWords Go.Proofs.YtfefpbnhpncmlaaW.Opens Go.Proofs.Ytfefpbnhpncmlaa.CatK Go.Proofs.Ytfefpbnhpncmlaa.CatZ Go.Proofs.Ytfefpbnhpncmlaa.CodL Go.Proofs.Ytfefpbnhpncmlaa.CatL Go.Proofs.Ytfefpbnhpncmlaa.PtrE Go.Proofs.Ytfefpbnhpncmlaa.EntL Go.Proofs.Ytfefpbnhpncmlaa.EntJ Go.Proofs.Ytfefpbnhpncmlaa.EntE Go.Proofs.Ytfefpbnhpncmlaa.B8
set_option linter.unusedVariables false
theorem cells9 : Try.prog.cellsOf 9 = 1 := by kernel_rfl
theorem s_any : Opens Try.prog 9 Kd.string (fun _ => True) := opens_mono (opens_string Try.underlying9) (fun _ _ => trivial)
end Go.Proofs.Ytfefpbnhpncmlaa.EntZ
namespace Go.Proofs.Ytfefpbnhpncmlaa.StmZ
open Go.RowKit Go.Proofs.Ytfefpbnhpncmlaa.EntL Go.Proofs.Ytfefpbnhpncmlaa.EntB Go.Proofs.Ytfefpbnhpncmlaa.EntC Go.Proofs.Ytfefpbnhpncmlaa.EntD Go.Proofs.Ytfefpbnhpncmlaa.EntE Go.Proofs.Ytfefpbnhpncmlaa.EntF Go.Proofs.Ytfefpbnhpncmlaa.CatR Go.Proofs.Ytfefpbnhpncmlaa.CatT Go.Proofs.Ytfefpbnhpncmlaa.CatU Go.Proofs.Ytfefpbnhpncmlaa.CatK Go.Proofs.Ytfefpbnhpncmlaa.CatS Go.Proofs.Ytfefpbnhpncmlaa.CatY Go.Proofs.Ytfefpbnhpncmlaa.RefG Go.Proofs.Ytfefpbnhpncmlaa.PtrB Go.Proofs.Ytfefpbnhpncmlaa.PtrG Go.Proofs.Ytfefpbnhpncmlaa.Agg Go.Proofs.Ytfefpbnhpncmlaa.B8 Go.Proofs.Ytfefpbnhpncmlaa.CodL Go.Proofs.Ytfefpbnhpncmlaa.CodA Go.Proofs.Ytfefpbnhpncmlaa.CodB Go.Proofs.Ytfefpbnhpncmlaa.CatL Go.Proofs.Ytfefpbnhpncmlaa.PtrA Go.Proofs.Ytfefpbnhpncmlaa.PtrE Go.Proofs.Ytfefpbnhpncmlaa.PtrF Go.Proofs.Ytfefpbnhpncmlaa.PBaseSigns Go.Proofs.YtfefpbnhpncmlaaW.PrintWords Go.Proofs.YtfefpbnhpncmlaaW.PrintLast Go.Proofs.YtfefpbnhpncmlaaW.PrintMore Go.Proofs.Ytfefpbnhpncmlaa.EntG Go.Proofs.Ytfefpbnhpncmlaa.StmA Go.Proofs.Ytfefpbnhpncmlaa.StmB Go.Proofs.Ytfefpbnhpncmlaa.StmC Go.Proofs.Ytfefpbnhpncmlaa.CrcC Go.Proofs.Ytfefpbnhpncmlaa.StmD Go.Proofs.Ytfefpbnhpncmlaa.StmE Go.Proofs.Ytfefpbnhpncmlaa.CrcL Go.Proofs.Ytfefpbnhpncmlaa.StmL Go.Proofs.Ytfefpbnhpncmlaa.StmF Go.Proofs.Ytfefpbnhpncmlaa.StmG Go.Proofs.Ytfefpbnhpncmlaa.StmH Go.Proofs.Ytfefpbnhpncmlaa.StmI Go.Proofs.Ytfefpbnhpncmlaa.StmJ Go.Proofs.Ytfefpbnhpncmlaa.StmK Go.Proofs.Ytfefpbnhpncmlaa.StmM Go.Proofs.Ytfefpbnhpncmlaa.StmN Go.Proofs.Ytfefpbnhpncmlaa.StmO Go.Proofs.Ytfefpbnhpncmlaa.StmP Go.Proofs.Ytfefpbnhpncmlaa.StmR Go.Proofs.Ytfefpbnhpncmlaa.CrcM Go.Proofs.Ytfefpbnhpncmlaa.StmS Go.Proofs.Ytfefpbnhpncmlaa.StmT Go.Proofs.Ytfefpbnhpncmlaa.StmQ Go.Proofs.Ytfefpbnhpncmlaa.StmV Go.Proofs.Ytfefpbnhpncmlaa.StmU Go.Proofs.Ytfefpbnhpncmlaa.StmX Go.Proofs.YtfefpbnhpncmlaaW.Opens Go.Proofs.Ytfefpbnhpncmlaa.CatZ Go.Proofs.Ytfefpbnhpncmlaa.EntZ
set_option linter.unusedVariables false
set_option linter.unusedSimpArgs false

theorem cells131 : Try.prog.cellsOf 131 = 3 := by kernel_rfl
theorem cells133 : Try.prog.cellsOf 133 = 4 := by kernel_rfl
theorem cells77 : Try.prog.cellsOf 77 = 1 := by kernel_rfl
theorem cells79 : Try.prog.cellsOf 79 = 3 := by kernel_rfl
theorem cells4 : Try.prog.cellsOf 4 = 1 := by kernel_rfl
theorem fields131 : (Try.prog.fieldsOf 131).toList.map (fun f => (f.name, f.type, f.offset)) = [("Key", 31, 0), ("In", 31, 1), ("Data", 31, 2)] := by kernel_rfl
theorem fields133 : (Try.prog.fieldsOf 133).toList.map (fun f => (f.name, f.type, f.offset)) = [("Item", 131, 0), ("Gone", 4, 3)] := by kernel_rfl
theorem fields79 : (Try.prog.fieldsOf 79).toList.map (fun f => (f.name, f.type, f.offset)) = [("Base", 9, 0), ("Snap", 9, 1), ("L", 77, 2)] := by kernel_rfl
abbrev kB : Kd (List Int) := Kd.slice 5 (Kd.int .u8)
abbrev k131 : Kd (List Int × List Int × List Int) := Kd.pair kB (Kd.pair kB kB)
abbrev k133 : Kd ((List Int × List Int × List Int) × Bool) := Kd.pair k131 Kd.bool
abbrev k79 : Kd (ByteArray × ByteArray × List ((List Int × List Int × List Int) × Bool)) := Kd.pair Kd.string (Kd.pair Kd.string (Kd.slice 133 k133))
def G3 (x : List Int × List Int × List Int) : Prop := Byt x.1 ∧ Byt x.2.1 ∧ Byt x.2.2
theorem opens131 : Opens Try.prog 131 k131 G3 := by
  refine opens_struct StmG.u131 (by rw [cells131]; rfl) ?_
  have hf := fields131
  generalize (Try.prog.fieldsOf 131).toList = fs at hf
  rcases fs with _ | ⟨f0, fs⟩; · simp at hf
  rcases fs with _ | ⟨f1, fs⟩; · simp at hf
  rcases fs with _ | ⟨f2, fs⟩; · simp at hf
  rcases fs with _ | ⟨f3, fs⟩
  · simp only [List.map_cons, List.map_nil, List.cons.injEq, Prod.mk.injEq, and_true] at hf
    obtain ⟨⟨n0, t0, o0⟩, ⟨n1, t1, o1⟩, n2, t2, o2⟩ := hf
    refine opensF_cons (P := Try.prog) (d0 := kB) (d1 := Kd.pair kB kB) (G0 := Byt) (G1 := fun x : List Int × List Int => Byt x.1 ∧ Byt x.2) o0 (by rw [t0]; exact cells31) (by rw [t0]; exact opens31) ?_
    refine opensF_cons (P := Try.prog) (d0 := kB) (d1 := kB) (G0 := Byt) (G1 := Byt) o1 (by rw [t1]; exact cells31) (by rw [t1]; exact opens31) ?_
    exact opensF_last (P := Try.prog) (d := kB) o2 (by rw [t2]; exact cells31) (by rw [t2]; exact opens31)
  · simp at hf
theorem opens133 : Opens Try.prog 133 k133 (fun x => G3 x.1) := by
  refine opens_mono (G := fun x => G3 x.1 ∧ True) (opens_struct StmD.u133 (by rw [cells133]; rfl) ?_) (fun x h => h.1)
  have hf := fields133
  generalize (Try.prog.fieldsOf 133).toList = fs at hf
  rcases fs with _ | ⟨f0, fs⟩; · simp at hf
  rcases fs with _ | ⟨f1, fs⟩; · simp at hf
  rcases fs with _ | ⟨f2, fs⟩
  · simp only [List.map_cons, List.map_nil, List.cons.injEq, Prod.mk.injEq, and_true] at hf
    obtain ⟨⟨n0, t0, o0⟩, n1, t1, o1⟩ := hf
    refine opensF_cons (P := Try.prog) (d0 := k131) (d1 := Kd.bool) (G0 := G3) (G1 := fun _ => True) o0 (by rw [t0]; exact cells131) (by rw [t0]; exact opens131) ?_
    exact opensF_last (P := Try.prog) (d := Kd.bool) o1 (by rw [t1]; exact cells4) (by rw [t1]; exact opens_bool Try.underlying4)
  · simp at hf
theorem opens77 : Opens Try.prog 77 (Kd.slice 133 k133) (fun l => ∀ x ∈ l, G3 x.1) := opens_slice StmF.u77 (by rw [cells133]; rfl) opens133
theorem opens79' : Opens Try.prog 79 k79 (fun x => ∀ y ∈ x.2.2, G3 y.1) := by
  refine opens_mono (G := fun x => True ∧ True ∧ ∀ y ∈ x.2.2, G3 y.1) (opens_struct StmP.u79 (by rw [cells79]; rfl) ?_) (fun x h => h.2.2)
  have hf := fields79
  generalize (Try.prog.fieldsOf 79).toList = fs at hf
  rcases fs with _ | ⟨f0, fs⟩; · simp at hf
  rcases fs with _ | ⟨f1, fs⟩; · simp at hf
  rcases fs with _ | ⟨f2, fs⟩; · simp at hf
  rcases fs with _ | ⟨f3, fs⟩
  · simp only [List.map_cons, List.map_nil, List.cons.injEq, Prod.mk.injEq, and_true] at hf
    obtain ⟨⟨n0, t0, o0⟩, ⟨n1, t1, o1⟩, n2, t2, o2⟩ := hf
    refine opensF_cons (P := Try.prog) (d0 := Kd.string) (d1 := Kd.pair Kd.string (Kd.slice 133 k133)) (G0 := fun _ => True) (G1 := fun x : ByteArray × List ((List Int × List Int × List Int) × Bool) => True ∧ ∀ y ∈ x.2, G3 y.1) o0 (by rw [t0]; exact cells9) (by rw [t0]; exact s_any) ?_
    refine opensF_cons (P := Try.prog) (d0 := Kd.string) (d1 := Kd.slice 133 k133) (G0 := fun _ => True) (G1 := fun l => ∀ y ∈ l, G3 y.1) o1 (by rw [t1]; exact cells9) (by rw [t1]; exact s_any) ?_
    exact opensF_last (P := Try.prog) (d := Kd.slice 133 k133) o2 (by rw [t2]; exact cells77) (by rw [t2]; exact opens77)
  · simp at hf
/-- A change of its parts. -/
def toC (x : (List Int × List Int × List Int) × Bool) : Chg := ⟨strOfNums x.1.1, strOfNums x.1.2.1, strOfNums x.1.2.2, x.2⟩
theorem cr_open {w : World} {A : Option Addr} {n : Nat} {xs : List ((List Int × List Int × List Int) × Bool)} (h : k133.C w A n xs) (hb : ∀ x ∈ xs, G3 x.1) : ∃ sl, CR w A n sl (xs.map toC) := by
  have hlen : xs.length = n := h.1
  have each : ∀ i, i < n → ∃ p : Sl, (∃ ad, A = some ad ∧ ∀ j u, (encS p).toList[j]? = some u → w.cell? (ad.add (i * 4 + j)) = some u) ∧ p.ca w ((xs.map toC).getD i default) := by
    intro i hi
    obtain ⟨ad, e, hc⟩ := h.2.2 (by omega)
    obtain ⟨y, hx⟩ : ∃ y, xs[i]? = some y := ⟨_, List.getElem?_eq_getElem (by omega)⟩
    obtain ⟨c, _, hk, hcell⟩ := hc i _ hx
    obtain ⟨c0, c1, rfl, ⟨a0, a1, rfl, ⟨A1, d1, rfl, l1, k1⟩, b0, b1, rfl, ⟨A2, d2, rfl, l2, k2⟩, A3, d3, rfl, l3, k3⟩, hg⟩ := hk
    have hg' : c1 = [.bool y.2] := hg
    subst hg'
    obtain ⟨g1, g2, g3⟩ := hb y (List.mem_of_getElem? hx)
    refine ⟨⟨A1, y.1.1.length, d1, A2, y.1.2.1.length, d2, A3, y.1.2.2.length, d3, y.2⟩, ⟨ad, e, hcell⟩, ?_⟩
    have e2 : (xs.map toC).getD i default = toC y := by
      rw [List.getD_eq_getElem?_getD, List.getElem?_map, hx]; rfl
    rw [e2]
    refine ⟨⟨?_, ?_, ?_, l1, l2, l3⟩, rfl⟩
    · show C8 w A1 _ (bytesOf (strOfNums y.1.1)); rw [CatV.bytes_str _ g1]; exact k1
    · show C8 w A2 _ (bytesOf (strOfNums y.1.2.1)); rw [CatV.bytes_str _ g2]; exact k2
    · show C8 w A3 _ (bytesOf (strOfNums y.1.2.2)); rw [CatV.bytes_str _ g3]; exact k3
  obtain ⟨f, hf⟩ := Go.Deep.choose_lt each
  have hat : ∀ i, i < n → ((List.range n).map f)[i]? = some (f i) := fun i hi => by rw [List.getElem?_map, List.getElem?_range hi]; rfl
  refine ⟨(List.range n).map f, ⟨⟨by simp, h.2.1, fun hn => ?_⟩, by rw [List.length_map]; exact hlen, fun i hi => ?_⟩⟩
  · obtain ⟨ad, e, _⟩ := h.2.2 hn
    refine ⟨ad, e, fun j p hj => ?_⟩
    have hjn : j < n := by
      have := (List.getElem?_eq_some_iff.1 hj).1
      simpa using this
    rw [hat j hjn] at hj
    cases hj
    obtain ⟨⟨ad', e', hc⟩, _⟩ := hf j hjn
    rw [e] at e'
    cases e'
    exact ⟨(encS (f j)).toList, rfl, rfl, fun i u hu => hc i u hu⟩
  · rw [List.getD_eq_getElem?_getD, hat i hi]
    exact (hf i hi).2
/-- A stream's cells. -/
theorem opens79 {H : Type} {enc : TypeId × Value → H} {w : World} {base : Nat} {spare : Nat → Bool} {held : Bool} {n : Nat} {cs : List Value} {x : DataW H × List MemPlace} (h : DataW.trod enc Try.prog w base spare held n 79 cs = some x) :
    ∃ (s : Stm) (A : Option Addr) (c m : Nat) (sl : List Sl), cs = [.string s.base, .string s.snap, .slice A m c] ∧ CR w A m sl s.l := by
  obtain ⟨⟨a, b, l⟩, hk, hg⟩ := opens79' H enc w base spare held n cs x h
  obtain ⟨c0, r0, rfl, h0, c1, r1, rfl, h1, A, c, rfl, hl, hC⟩ := hk
  have e0 : c0 = [.string a] := h0
  have e1 : c1 = [.string b] := h1
  subst e0 e1
  obtain ⟨sl, hcr⟩ := cr_open hC hg
  exact ⟨⟨a, b, l.map toC⟩, A, c, l.length, sl, rfl, hcr⟩
end Go.Proofs.Ytfefpbnhpncmlaa.StmZ
