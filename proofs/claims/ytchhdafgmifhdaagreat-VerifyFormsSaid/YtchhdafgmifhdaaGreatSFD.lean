/- Own texts, one behind the other, each with what the claim uses of it: LeaM LodK StrL FitK PlcK KidK MetK RunK WlkK FrmA AlcG AlcH PoolC FrmB Opens. -/
import Derived.Test.YtchhdafgmifhdaaGreatChecked
import GoSem.Claim
import GoSem.ClaimJoined
import GoSem.ClaimMapViews
import Derived.JoinedTies
import Derived.KernelRfl
import Derived.Test.YtchhdafgmifhdaaGreatProg
import Derived.Below
import Derived.Deep.Draws
import Derived.Deep.AppendLies
import Derived.Maps.AppendAt
import Derived.OwnWalk
import Derived.Laws.BytesArg
import Derived.Laws.MakeOwn
import Derived.Laws.OwnMore
import Derived.Deep.OwnRows
import Derived.Tactics
import Derived.Lib.ConvBytes
import Derived.Laws.Slices
import Derived.WalkKit
import Derived.RowKit3
import Derived.Deep.LoopGhost
import Derived.Deep.QuietTactic
import Derived.BigQuiet
import Derived.WideLaws
import Derived.Deep.DeepCutAuto
import Derived.Deep.CutBlock
import Derived.Deep.RegionHeld3
import Derived.Laws.Rows
import Derived.Lib.AppendStr
import Derived.ArgAppend
import Derived.Laws.IdiomCopy
import Derived.OrdersHeld
import Derived.Laws.BitsLemmas
import Derived.RowKit
import Derived.Laws.StructEq
import Derived.Deep.Slices
import Derived.WalkSpells
import Derived.WalkSmall
import Derived.Laws.Tables
import Derived.Deep.WholeRow
import Derived.StillTailTactics
import Derived.MapKept
import Derived.Laws.CopyOwn
import Derived.Maps.RangeRun
import Derived.Deep.MidRow
import Derived.Laws.Cover3
import Derived.Shelf.Strconv.Itoa0
import Derived.Shelf.Slices.Turned
import Derived.Shelf.Bytes.SlSearch0
import Derived.Shelf.Bytes.SlEqualAll
import Derived.Shelf.Bytes.Small
import Derived.Outline
import Derived.Lib.EndianBits
import Derived.ShutString
import Derived.Lib.BytesEntry
import Derived.Lib.Bytealg
import Derived.Laws.Externs
import Derived.Lib.SmallJoins
import Derived.Deep.RegionHeld
import Derived.OpenShut
import Derived.ProofKit
import Derived.ChangeOld
import Derived.SizedLaws
import Derived.Test.YtchhdafgmifhdaaGreatWWords
import Derived.Test.YtchhdafgmifhdaaGreatSFA
import Derived.Test.YtchhdafgmifhdaaGreatSFB
import Derived.Test.YtchhdafgmifhdaaGreatSFC
namespace Go.Proofs.YtchhdafgmifhdaaGreat.LeaM
open Go.RowKit Go.Proofs.YtchhdafgmifhdaaGreat.B8 Go.Proofs.YtchhdafgmifhdaaGreat.Agg Go.Proofs.YtchhdafgmifhdaaGreat.CodL Go.Proofs.YtchhdafgmifhdaaGreat.CodA Go.Proofs.YtchhdafgmifhdaaGreat.CodB Go.Proofs.YtchhdafgmifhdaaGreat.CrcL Go.Proofs.YtchhdafgmifhdaaGreat.CrcA Go.Proofs.YtchhdafgmifhdaaGreat.CrcB Go.Proofs.YtchhdafgmifhdaaGreat.PVerifyForms Go.Proofs.YtchhdafgmifhdaaGreatW.PrintWords Go.Proofs.YtchhdafgmifhdaaGreatW.PrintLast Go.Proofs.YtchhdafgmifhdaaGreatW.PrintMore Go.Proofs.YtchhdafgmifhdaaGreat.CatL Go.Proofs.YtchhdafgmifhdaaGreat.ExtA Go.Proofs.YtchhdafgmifhdaaGreat.PtrB Go.Proofs.YtchhdafgmifhdaaGreat.KpA Go.Proofs.YtchhdafgmifhdaaGreat.LeaA Go.Proofs.YtchhdafgmifhdaaGreat.LeaB Go.Proofs.YtchhdafgmifhdaaGreat.LeaC Go.Proofs.YtchhdafgmifhdaaGreat.LeaD Go.Proofs.YtchhdafgmifhdaaGreat.LeaE Go.Proofs.YtchhdafgmifhdaaGreat.LeaF Go.Proofs.YtchhdafgmifhdaaGreat.LeaG Go.Proofs.YtchhdafgmifhdaaGreat.LeaH Go.Proofs.YtchhdafgmifhdaaGreat.LeaI Go.Proofs.YtchhdafgmifhdaaGreat.LeaJ Go.Proofs.YtchhdafgmifhdaaGreat.LeaK Go.Proofs.YtchhdafgmifhdaaGreat.LeaL Go.Proofs.YtchhdafgmifhdaaGreat.LeaN Go.Proofs.YtchhdafgmifhdaaGreat.LeaO Go.Proofs.YtchhdafgmifhdaaGreat.RegK Go.Proofs.YtchhdafgmifhdaaGreat.PtrE Go.Proofs.YtchhdafgmifhdaaGreat.OfA Go.Proofs.YtchhdafgmifhdaaGreat.DskC Go.Proofs.YtchhdafgmifhdaaGreat.AlcD Go.Proofs.YtchhdafgmifhdaaGreat.PoolB
set_option linter.unusedVariables false
set_option linter.unusedSimpArgs false
set_option maxRecDepth 100000 in
set_option maxHeartbeats 8000000 in
theorem read92 (x : Nd) (A : Option Addr) (n c : Nat) (b : List Int) (hx : RightN x) (hb : b = nodeL x) (w : World) (hr : C8 w A n b) (hc : n ≤ c) :
    Calls Tryz.prog 92 #[.slice A n c] w fun e w' => ∃ s ts, e = .returned (.tuple #[.agg (encN x s), .int .i64 0]) ∧ NF w' w.heap.size x s ts ∧ Below w.heap.size w w' := by
  obtain ⟨P, hP⟩ : ∃ P : Ending → World → Prop, P = fun e w' => ∃ s ts, e = .returned (.tuple #[.agg (encN x s), .int .i64 0]) ∧ NF w' w.heap.size x s ts ∧ Below w.heap.size w w' := ⟨_, rfl⟩
  rw [← hP]
  have HP := Aside0.mk hP
  have hnl : n = b.length := hr.1.symm
  have hn4 : n ≤ 4096 := by rw [hnl, hb]; exact hx.small
  have hd : decide (4096 < (n : Int)) = false := decide_eq_false (by omega)
  have HX := Aside0.mk (And.intro hx (And.intro hb (And.intro hr (And.intro hc hnl))))
  clear hP hx hb hr hnl
  go_enter Tryz.func92, Tryz.ntmps92
  go_wp2_with fail
  obtain ⟨gr, hgr⟩ : ∃ g, g = w.heap.size + 1 := ⟨_, rfl⟩
  obtain ⟨W2, hW2⟩ : ∃ W, W = (w.alloc (.cells #[.int .i64 0, .slice none 0 0, .slice none 0 0, .slice none 0 0] 39)).alloc (.cells #[.slice A n c, .bool false] 210) := ⟨_, rfl⟩
  rw [← hgr, ← hW2]
  have HR2 := Aside0.mk (show RD w gr b W2 by
    have hb1 := below_alloc (Below.refl w.heap.size w) (.cells #[.int .i64 0, .slice none 0 0, .slice none 0 0, .slice none 0 0] 39)
    refine ⟨?_, ⟨A, c, ?_, ?_, ?_⟩, by omega, ?_, ?_⟩
    · rw [hW2]; exact below_alloc hb1 _
    · rw [← HX.out.2.2.2.2]; exact HX.out.2.2.1
    · rw [← HX.out.2.2.2.2]; exact HX.out.2.2.2.1
    · rw [hW2, hgr, ← HX.out.2.2.2.2]
      have := blk_new (w.alloc (.cells #[.int .i64 0, .slice none 0 0, .slice none 0 0, .slice none 0 0] 39)) (.cells #[.slice A n c, .bool false] 210)
      simpa using this
    · rw [HX.out.2.1]; exact nodeL_byt HX.out.1.shape
    · rw [← HX.out.2.2.2.2]; omega)
  have HZ2 := Aside0.mk (show W2.heap[w.heap.size]? = some (.cells #[.int .i64 0, .slice none 0 0, .slice none 0 0, .slice none 0 0] 39 (0, 0)) by
    rw [hW2]; exact blk_alloc (blk_new w _) _)
  have HS2 := Aside0.mk (show W2.heap.size = gr + 1 by rw [hW2, hgr]; simp)
  have HGR := Aside0.mk hgr
  obtain ⟨lv, hlv⟩ : ∃ n, n = x.lvl := ⟨_, rfl⟩
  have hlv12 : lv ≤ 12 := by rw [hlv]; exact HX.out.1.shape.lvl
  have HLV := Aside0.mk hlv
  clear hgr hW2 hlv
  obtain ⟨n1, hn1⟩ : ∃ n, n = x.keys.length := ⟨_, rfl⟩
  have HN1 := Aside0.mk hn1
  have hn11 : n1 ≤ 1000 := by rw [hn1]; exact HX.out.1.shape.most
  clear hn1
  have hb0 : b = shortL lv ++ (shortL n1 ++ restL x 0) := by rw [HX.out.2.1, nodeL_rest, HLV.out, HN1.out]
  refine (number134 w gr lv 12 b _ hb0 hlv12 (by omega) W2 HR2.out).mono ?_
  rintro e w3 ⟨rfl, hr3, hk3, hz3⟩
  have H3 := Aside0.mk (And.intro hr3 hk3)
  clear hr3 hk3 hb0
  obtain ⟨gn, hgn⟩ : ∃ g, g = w3.heap.size := ⟨_, rfl⟩
  have HGN := Aside0.mk (And.intro hgn (show gn = gr + 1 by rw [hgn, hz3]; exact HS2.out))
  clear hz3
  go_wp2_with fail
  rw [← hgn]
  obtain ⟨w4, hw4⟩ : ∃ W, W = w3.alloc (.cells #[.int .i64 (lv : Int), .slice none 0 0, .slice none 0 0, .slice none 0 0] 39) := ⟨_, rfl⟩
  rw [← hw4]
  have H4 := Aside0.mk (show RD w gr (shortL n1 ++ restL x 0) w4 ∧ w4.heap[gn]? = some (.cells #[.int .i64 (lv : Int), .slice none 0 0, .slice none 0 0, .slice none 0 0] 39 (0, 0)) ∧ w4.heap[w.heap.size]? = some (.cells #[.int .i64 0, .slice none 0 0, .slice none 0 0, .slice none 0 0] 39 (0, 0)) ∧ w4.heap.size = gn + 1 by
    have hb := below_alloc (Below.refl w3.heap.size w3) (.cells #[.int .i64 (lv : Int), .slice none 0 0, .slice none 0 0, .slice none 0 0] 39)
    rw [hw4]
    refine ⟨H3.out.1.keep hb, by rw [hgn]; exact blk_new w3 _, blk_below (blk_kept HZ2.out H3.out.2.kept (by have := HGR.out; omega)) hb, by rw [hgn]; simp⟩)
  clear hgn hw4
  refine (number134 w gr n1 4096 _ (restL x 0) rfl (by omega) (by omega) w4 H4.out.1).mono ?_
  rintro e w5 ⟨rfl, hr5, hk5, hz5⟩
  have H5 := Aside0.mk (show RD w gr (restL x 0) w5 ∧ w5.heap[gn]? = some (.cells #[.int .i64 (lv : Int), .slice none 0 0, .slice none 0 0, .slice none 0 0] 39 (0, 0)) ∧ w5.heap[w.heap.size]? = some (.cells #[.int .i64 0, .slice none 0 0, .slice none 0 0, .slice none 0 0] 39 (0, 0)) ∧ w5.heap.size = gn + 1 from
    ⟨hr5, blk_kept H4.out.2.1 hk5.kept (by have := HGN.out; omega), blk_kept H4.out.2.2.1 hk5.kept (by have := HGR.out; omega), by rw [hz5]; exact H4.out.2.2.2⟩)
  clear hr5 hk5 hz5
  go_wp2_with fail
  obtain ⟨vals, hvals⟩ : ∃ v, v = x.vals := ⟨_, rfl⟩
  obtain ⟨kids, hkids⟩ : ∃ v, v = x.kids := ⟨_, rfl⟩
  have HVK := Aside0.mk (And.intro hvals hkids)
  clear hvals hkids
  go_loopw [6, 19] (fun v6 v19 wr => ∃ (j np cp : Nat) (Ap : Option Addr) (vK vV vP : Value) (tsK tsV : List Tri), v19 = .int .i64 (j : Int) ∧ v6 = .slice Ap np cp ∧ j ≤ n1 ∧ Aside0 (LS w gr gn (restL x j) #[.int .i64 (lv : Int), vK, vV, vP] wr) ∧ Aside0 (Three kT 36 kT 36 kP 32 wr (gn + 1) vK vV vP tsK tsV (kids.take j)) ∧ Aside0 (El wr tsK (x.keys.take j) ∧ El wr tsV (vals.take j)) ∧ Aside0 (C8 wr Ap np (prevK x j) ∧ B5 wr Ap ∧ np ≤ 160 ∧ np ≤ cp)) (fun _ v _ => n1 - (intOf v).toNat)
  case atStart => exact ⟨0, 0, 0, none, _, _, _, [], [], rfl, rfl, Nat.zero_le _, ⟨⟨H5.out.1, H5.out.2.1, H5.out.2.2.1, by have := H5.out.2.2.2; omega⟩⟩, ⟨by simpa using Three.nil⟩, ⟨by simpa using El.nil w5, by simpa using El.nil w5⟩, ⟨Kd.C_nil _ _, (fun ad had => by cases had), by omega, by omega⟩⟩
  case round =>
    obtain ⟨j, np, cp, Ap, vK, vV, vP, tsK, tsV, rfl, rfl, hj, HLS, HT, HE, HA⟩ := hrel
    clear H5
    by_cases hlt : j < n1
    · have q0 : wr.cell? ⟨gr, 1, none⟩ = some (.bool false) := by
        obtain ⟨A', c', _, _, hg⟩ := HLS.out.rd.blk
        rw [cell_of_row _ _ 1 _ 210 (0, 0) hg]; rfl
      go_wp2_with fail
      obtain ⟨k, hk⟩ : ∃ k, k = x.keys.getD j [] := ⟨_, rfl⟩
      have hkm : k ∈ x.keys := by rw [hk, List.getD, List.getElem?_eq_getElem (by rw [← HN1.out]; exact hlt)]; exact List.getElem_mem _
      obtain ⟨hkl, hkb⟩ := HX.out.1.shape.key k hkm
      obtain ⟨lr, hlr⟩ : ∃ r, r = (if x.lvl = 0 then shB (x.vals.getD j []) else ptrL (x.kids.getD j zeroP)) ++ restL x (j + 1) := ⟨_, rfl⟩
      have hrj : restL x j = shortL (sharedL (prevK x j) k) ++ (shB (k.drop (sharedL (prevK x j) k)) ++ lr) := by
        rw [restL_next (by rw [← HN1.out]; exact hlt), itemL, hlr, ← hk]
        simp only [List.append_assoc]
      refine (key135 w gr Ap np cp (prevK x j) k _ lr hkb hkl HA.out.2.2.1 HA.out.2.2.2 hrj wr HLS.out.rd HA.out.1 HA.out.2.1).mono ?_
      rintro e w6 ⟨A6, c6, rfl, hC6, hl6, h56, hr6, hk6⟩
      obtain ⟨m, hm⟩ : ∃ m, m = k.length := ⟨_, rfl⟩
      have H5k : K5 wr w6 := by
        obtain ⟨A', c', _, _, hgr⟩ := HLS.out.rd.blk
        exact K5.of_one hk6.kept hgr (by decide)
      have HL6 := Aside0.mk (HLS.out.read HGN.out.2 HGR.out hr6 hk6)
      have HT6 := Aside0.mk (HT.out.kept hk6.kept (fun q hq => by have := HGN.out; omega))
      have HE6 := Aside0.mk (And.intro (HE.out.1.kept H5k) (And.intro (HE.out.2.kept H5k) (show El1 w6 ⟨A6, m, c6⟩ k from ⟨hC6, hm, hl6, h56⟩)))
      have HKK := Aside0.mk (And.intro hk (And.intro hlr (And.intro hkb (And.intro hkl hm))))
      have HC6 := Aside0.mk (show m ≤ c6 by rw [hm]; exact hl6)
      rw [← hm]
      clear hk hkm hkl hkb hlr hrj hC6 hl6 h56 hr6 hk6 H5k hm q0
      have q1 : w6.cell? ⟨gn, 1, none⟩ = some vK := by rw [cell_of_row _ _ 1 _ 39 (0, 0) HL6.out.nd]; rfl
      have hlt7 : tsK.length ≤ 100000 := by have := HE6.out.1.1; rw [this, List.length_take]; omega
      have hz6 : gn + 1 ≤ w6.heap.size := HL6.out.sz
      by_cases h0 : lv = 0
      · have d0 : ((lv : Int) == 0) = true := by rw [h0]; rfl
        have H0 := Aside0.mk h0
        clear h0
        go_wp2_with (at_builtin; refine wpList_plain rfl fun Kc hKc => wp_appT (w0 := w6) (gn + 1) (fun k => some k ≠ vV.ownBlock ∧ some k ≠ vP.ownBlock) (.tmp 29) (.tmp 31) rfl vK tsK ⟨A6, m, c6⟩ rfl rfl rfl HT6.out.r1 HT6.out.fresh (Below.refl _ _) hz6 hlt7 ?_; intro vK' w7 hr7 hb7 hg7 ho7; obtain ⟨AK, cK, rfl, hleK, hCK⟩ := Kd.R_reads hr7; clear hleK hCK; generalize hnK : (tsK ++ [(⟨A6, m, c6⟩ : Tri)]).length = nK at *; have HNK := Aside0.mk hnK; clear hnK; have HL8 := Aside0.mk (HL6.out.grown HGN.out.2 HGR.out HT6.out (by decide) hr7 hb7 hg7 ho7 1); have HM7 := Aside0.mk ((hb7.block gn (Nat.lt_succ_self _)).trans HL6.out.nd); clear hr7 hb7 hg7 ho7; refine hKc _ _ ?_; clear hKc Kc; have hf7 := frozen_of_row w7 gn 1 _ 39 HM7.out; have q7 : w7.cell? ⟨gn, 0, none⟩ = some (.int .i64 (lv : Int)) := (by rw [cell_of_row _ _ 0 _ 39 (0, 0) HM7.out]; rfl); have q71 : w7.cell? ⟨gn, 1, none⟩ = some vK := (by rw [cell_of_row _ _ 1 _ 39 (0, 0) HM7.out]; rfl))
        obtain ⟨w8, hw8⟩ : ∃ W, W = w7.setCell ⟨gn, 1, none⟩ (.slice AK nK cK) := ⟨_, rfl⟩
        rw [← hw8] at HL8 ⊢
        have HE8 := Aside0.mk (show El w8 (tsK ++ [(⟨A6, m, c6⟩ : Tri)]) (x.keys.take (j + 1)) ∧ El w8 tsV (vals.take j) ∧ C8 w8 A6 m k ∧ B5 w8 A6 by
          have h1 := (HE6.out.1.kept HL8.out.2.2).snoc (HE6.out.2.2.kept HL8.out.2.2)
          have h2 := HE6.out.2.2.kept HL8.out.2.2
          refine ⟨?_, HE6.out.2.1.kept HL8.out.2.2, ?_, h2.five⟩
          · rw [take_succ_getD (by rw [← HN1.out]; exact hlt), ← HKK.out.1]; exact h1
          · have := h2.bytes; rw [← HKK.out.2.2.2.2] at this; exact this)
        clear hw8 hf7 q7 q71 HM7 q1 hlt7 hz6 HL6 HT6 HE6
        obtain ⟨q, hq⟩ : ∃ k, k = vals.getD j [] := ⟨_, rfl⟩
        have hjv : j < vals.length := by
          have hLi := HX.out.1.shape.lists
          unfold Lists at hLi
          rw [if_pos (by rw [← HLV.out]; exact H0.out), ← HN1.out, ← HVK.out.1] at hLi
          omega
        have hqm : q ∈ x.vals := by rw [hq, ← HVK.out.1, List.getD, List.getElem?_eq_getElem hjv]; exact List.getElem_mem _
        obtain ⟨hql, hqb⟩ := HX.out.1.shape.val q hqm
        have hlr : lr = shB q ++ restL x (j + 1) := by rw [HKK.out.2.1, if_pos (by rw [← HLV.out]; exact H0.out), hq, HVK.out.1]
        obtain ⟨mq, hmq⟩ : ∃ m, m = q.length := ⟨_, rfl⟩
        have HQ := Aside0.mk (And.intro hq (And.intro hqb (And.intro hlr (And.intro hmq (And.intro hql hjv)))))
        have HC8 := Aside0.mk (show w8.cell? ⟨gn, 2, none⟩ = some vV by rw [cell_of_row _ _ 2 _ 39 (0, 0) HL8.out.1.nd]; rfl)
        clear hq hqm hql hqb hlr hmq hjv
        refine wp_region_K (k := 7) (S := fun w' => w'.cell? ⟨gn, 2, none⟩ = some vV) (by kernel_rfl) (HC8.out) (fun hW => ?_)
        have WDB := Aside0.mk (show Below w8.heap.size w8 w8.drew from below_drew (Below.refl _ _))
        generalize hWd : w8.drew = Wd at *
        clear hWd
        refine wpAnyK_take (i := 0) (oi := ⟨some 37, _, _, _, _, _⟩) (v := .pointer (some ⟨gn, 2, none⟩)) rfl (by kernel_rfl) (by kernel_rfl) (by kernel_rfl) (by kernel_rfl) (by kernel_rfl) (fun _ _ _ h => h) (.inl ⟨by rfl, fun W1 h1 => by go_simp⟩) hW ?_
        try simp only [Act.put, List.setIfInBounds_toArray, List.set_cons_zero, List.set_cons_succ]
        refine wpAnyK_take (i := 1) (oi := ⟨some 38, _, _, _, _, _⟩) (v := vV) rfl (by kernel_rfl) (by kernel_rfl) (by kernel_rfl) (by kernel_rfl) (by kernel_rfl) (fun _ _ _ h => h) (.inl ⟨by rfl, fun W1 h1 => by skip; go_simp⟩) hW ?_
        try simp only [Act.put, List.setIfInBounds_toArray, List.set_cons_zero, List.set_cons_succ]
        refine wpAnyK_take (i := 2) (oi := ⟨some 39, _, _, _, _, _⟩) (v := .pointer (some ⟨gr, 0, none⟩)) rfl (by kernel_rfl) (by kernel_rfl) (by kernel_rfl) (by kernel_rfl) (by kernel_rfl) (fun _ _ _ h => h) (.inl ⟨by rfl, fun W1 h1 => by go_simp⟩) hW ?_
        try simp only [Act.put, List.setIfInBounds_toArray, List.set_cons_zero, List.set_cons_succ]
        refine wpAnyK_ready (rs := [3]) (by kernel_rfl) (by simp) (AllReadyK.early rfl (fun K1 hK1 => ?_) AllReadyK.nil)
        go_simp
        have HLd := Aside0.mk (LS.below HL8.out.1 WDB.out)
        refine (text1024 w gr q lr _ HQ.out.2.1 HQ.out.2.2.1 HQ.out.2.2.2.2.1 Wd HLd.out.rd).mono ?_
        rintro e w9 ⟨A9, c9, rfl, hC9, hle9, hfr9, h59, hr9, hk9⟩
        have HL9 := Aside0.mk (HLd.out.read HGN.out.2 HGR.out hr9 hk9)
        have K9 : K5 w8 w9 := (K5.of_below WDB.out).then_ (by obtain ⟨A', c', _, _, hgr⟩ := HLd.out.rd.blk; exact K5.of_one hk9.kept hgr (by decide))
        have HT9 := Aside0.mk ((HL8.out.2.1.below WDB.out).kept hk9.kept (fun q hq => by have := HGN.out; omega))
        have HE9 := Aside0.mk (And.intro (HE8.out.1.kept K9) (And.intro (HE8.out.2.1.kept K9) (show El1 w9 ⟨A9, mq, c9⟩ q from ⟨hC9, HQ.out.2.2.2.1, hle9, h59⟩)))
        have HA9 := Aside0.mk (And.intro (C8_K5 HE8.out.2.2.1 HE8.out.2.2.2 K9) (B5_K5 HE8.out.2.2.2 K9))
        rw [← HQ.out.2.2.2.1]
        have hW9 : w9.cell? ⟨gn, 2, none⟩ = some vV := by rw [cell_of_row _ _ 2 _ 39 (0, 0) HL9.out.nd]; rfl
        refine hK1.out _ _ (hW9) (fun hW => ?_)
        try simp only [Act.put, List.setIfInBounds_toArray, List.set_cons_zero, List.set_cons_succ]
        clear hW9 hC9 hle9 hfr9 h59 hr9 hk9 K9
        refine wpAnyK_ready (rs := [4]) (by kernel_rfl) (by simp) (AllReadyK.early rfl (fun K2 hK2 => ?_) AllReadyK.nil)
        go_simp
        refine hK2.out _ _ ((by rw [cell_of_row _ _ 2 _ 39 (0, 0) (blk_alloc HL9.out.nd _)]; rfl)) (fun hW => ?_)
        try simp only [Act.put, List.setIfInBounds_toArray, List.set_cons_zero, List.set_cons_succ]
        refine wpAnyK_ready (rs := [5]) (by kernel_rfl) (by simp) (AllReadyK.early rfl (fun K3 hK3 => ?_) AllReadyK.nil)
        have hlt10 : tsV.length ≤ 100000 := by have := HE9.out.2.1.1; rw [this, List.length_take]; omega
        refine wp_appT (o := ⟨some 42, _, _, _, _, _⟩) (w0 := w9) (gn + 1) (fun k => some k ≠ vP.ownBlock ∧ some k ≠ (Value.slice AK nK cK).ownBlock) (.tmp 38) (.tmp 41) rfl vV tsV ⟨A9, mq, c9⟩ rfl rfl rfl HT9.out.r2 HT9.out.turn.fresh (Below.refl _ _) HL9.out.sz hlt10 ?_
        intro vV' w10 hr10 hb10 hg10 ho10
        obtain ⟨AV, cV, rfl, hleV, hCV⟩ := Kd.R_reads hr10
        clear hleV hCV hlt10
        generalize hnV : (tsV ++ [(⟨A9, mq, c9⟩ : Tri)]).length = nV at *
        clear hnV
        have HL10 := Aside0.mk (HL9.out.grown HGN.out.2 HGR.out HT9.out.turn (by decide) hr10 hb10 hg10 ho10 2)
        have HM10 := Aside0.mk ((hb10.block gn (Nat.lt_succ_self _)).trans HL9.out.nd)
        clear hr10 hb10 hg10 ho10
        refine hK3.out _ _ ((by rw [cell_of_row _ _ 2 _ 39 (0, 0) HM10.out]; rfl)) (fun hW => ?_)
        try simp only [Act.put, List.setIfInBounds_toArray, List.set_cons_zero, List.set_cons_succ]
        refine wpAnyK_take (i := 6) (oi := ⟨some 43, _, _, _, _, _⟩) (v := .pointer (some ⟨gn, 2, none⟩)) rfl (by kernel_rfl) (by kernel_rfl) (by kernel_rfl) (by kernel_rfl) (by kernel_rfl) (fun _ _ _ h => h) (.inl ⟨by rfl, fun W1 h1 => by go_simp⟩) hW ?_
        try simp only [Act.put, List.setIfInBounds_toArray, List.set_cons_zero, List.set_cons_succ]
        refine wpAnyK_ready (rs := [7]) (by kernel_rfl) (by simp) (AllReadyK.late rfl (by kernel_rfl) (fun K4 hK4 => ?_) AllReadyK.nil)
        have hf10 := frozen_of_row w10 gn 2 _ 39 HM10.out
        have q10 : w10.cell? ⟨gn, 2, none⟩ = some vV := by rw [cell_of_row _ _ 2 _ 39 (0, 0) HM10.out]; rfl
        go_simp
        clear hf10 q10
        refine hK4.out _ _ ?_
        try simp only [Act.put, List.setIfInBounds_toArray, List.set_cons_zero, List.set_cons_succ]
        refine wpAnyK_done (by kernel_rfl) ?_ _
        clear hK1 hK2 hK3 hK4 K1 K2 K3 K4
        clear WDB hW HC8
        obtain ⟨w11, hw11⟩ : ∃ W, W = w10.setCell ⟨gn, 2, none⟩ (.slice AV nV cV) := ⟨_, rfl⟩
        rw [← hw11] at HL10 ⊢
        clear hw11 HM10
        have HF := Aside0.mk (show Three kT 36 kT 36 kP 32 w11 (gn + 1) (.slice AK nK cK) (.slice AV nV cV) vP (tsK ++ [(⟨A6, m, c6⟩ : Tri)]) (tsV ++ [(⟨A9, mq, c9⟩ : Tri)]) (kids.take (j + 1)) ∧ (El w11 (tsK ++ [(⟨A6, m, c6⟩ : Tri)]) (x.keys.take (j + 1)) ∧ El w11 (tsV ++ [(⟨A9, mq, c9⟩ : Tri)]) (vals.take (j + 1))) ∧ C8 w11 A6 m (prevK x (j + 1)) ∧ B5 w11 A6 ∧ m ≤ 160 ∧ m ≤ c6 by
          have hk5 := HL10.out.2.2
          have hkid : kids = [] := by
            have hLi := HX.out.1.shape.lists
            unfold Lists at hLi
            rw [if_pos (by rw [← HLV.out]; exact H0.out), ← HVK.out.2] at hLi
            exact List.length_eq_zero_iff.1 hLi.2
          have hT := HL10.out.2.1.turn.turn
          rw [hkid, List.take_nil] at hT ⊢
          refine ⟨hT, ⟨HE9.out.1.kept hk5, ?_⟩, ?_, B5_K5 HA9.out.2 hk5, by rw [HKK.out.2.2.2.2]; exact HKK.out.2.2.2.1, ?_⟩
          · rw [take_succ_getD HQ.out.2.2.2.2.2, ← HQ.out.1]
            exact (HE9.out.2.1.kept hk5).snoc (HE9.out.2.2.kept hk5)
          · rw [show prevK x (j + 1) = x.keys.getD j [] from rfl, ← HKK.out.1]
            exact C8_K5 HA9.out.1 HA9.out.2 hk5
          · exact HC6.out)
        go_wp2_with fail
        go_roundw
        case rel => exact ⟨j + 1, m, c6, A6, .slice AK nK cK, .slice AV nV cV, vP, tsK ++ [⟨A6, m, c6⟩], tsV ++ [⟨A9, mq, c9⟩], by go_num, rfl, by omega, ⟨HL10.out.1⟩, ⟨HF.out.1⟩, ⟨HF.out.2.1⟩, ⟨HF.out.2.2⟩⟩
        case measure => simp [intOf]; omega
      · have d0 : ((lv : Int) == 0) = false := by rw [beq_eq_false_iff_ne]; omega
        have H0 := Aside0.mk h0
        clear h0
        go_wp2_with (at_builtin; refine wpList_plain rfl fun Kc hKc => wp_appT (w0 := w6) (gn + 1) (fun k => some k ≠ vV.ownBlock ∧ some k ≠ vP.ownBlock) (.tmp 29) (.tmp 31) rfl vK tsK ⟨A6, m, c6⟩ rfl rfl rfl HT6.out.r1 HT6.out.fresh (Below.refl _ _) hz6 hlt7 ?_; intro vK' w7 hr7 hb7 hg7 ho7; obtain ⟨AK, cK, rfl, hleK, hCK⟩ := Kd.R_reads hr7; clear hleK hCK; generalize hnK : (tsK ++ [(⟨A6, m, c6⟩ : Tri)]).length = nK at *; have HNK := Aside0.mk hnK; clear hnK; have HL8 := Aside0.mk (HL6.out.grown HGN.out.2 HGR.out HT6.out (by decide) hr7 hb7 hg7 ho7 1); have HM7 := Aside0.mk ((hb7.block gn (Nat.lt_succ_self _)).trans HL6.out.nd); clear hr7 hb7 hg7 ho7; refine hKc _ _ ?_; clear hKc Kc; have hf7 := frozen_of_row w7 gn 1 _ 39 HM7.out; have q7 : w7.cell? ⟨gn, 0, none⟩ = some (.int .i64 (lv : Int)) := (by rw [cell_of_row _ _ 0 _ 39 (0, 0) HM7.out]; rfl); have q71 : w7.cell? ⟨gn, 1, none⟩ = some vK := (by rw [cell_of_row _ _ 1 _ 39 (0, 0) HM7.out]; rfl))
        obtain ⟨w8, hw8⟩ : ∃ W, W = w7.setCell ⟨gn, 1, none⟩ (.slice AK nK cK) := ⟨_, rfl⟩
        rw [← hw8] at HL8 ⊢
        have HE8 := Aside0.mk (show El w8 (tsK ++ [(⟨A6, m, c6⟩ : Tri)]) (x.keys.take (j + 1)) ∧ El w8 tsV (vals.take j) ∧ C8 w8 A6 m k ∧ B5 w8 A6 by
          have h1 := (HE6.out.1.kept HL8.out.2.2).snoc (HE6.out.2.2.kept HL8.out.2.2)
          have h2 := HE6.out.2.2.kept HL8.out.2.2
          refine ⟨?_, HE6.out.2.1.kept HL8.out.2.2, ?_, h2.five⟩
          · rw [take_succ_getD (by rw [← HN1.out]; exact hlt), ← HKK.out.1]; exact h1
          · have := h2.bytes; rw [← HKK.out.2.2.2.2] at this; exact this)
        clear hw8 hf7 q7 q71 HM7 q1 hlt7 hz6 HL6 HT6 HE6
        obtain ⟨q, hq⟩ : ∃ k, k = kids.getD j zeroP := ⟨_, rfl⟩
        have hjv : j < kids.length := by
          have hLi := HX.out.1.shape.lists
          unfold Lists at hLi
          rw [if_neg (by rw [← HLV.out]; exact H0.out), ← HN1.out, ← HVK.out.2] at hLi
          omega
        have hqm : q ∈ x.kids := by rw [hq, ← HVK.out.2, List.getD, List.getElem?_eq_getElem hjv]; exact List.getElem_mem _
        have hqr := HX.out.1.shape.kid q hqm
        have hlr : lr = ptrL q ++ restL x (j + 1) := by rw [HKK.out.2.1, if_neg (by rw [← HLV.out]; exact H0.out), hq, HVK.out.2]
        obtain ⟨cq, hcq⟩ : ∃ m, m = encP q := ⟨_, rfl⟩
        have HQ := Aside0.mk (And.intro hq (And.intro hqr (And.intro hlr (And.intro hcq hjv))))
        have HC8 := Aside0.mk (show w8.cell? ⟨gn, 3, none⟩ = some vP by rw [cell_of_row _ _ 3 _ 39 (0, 0) HL8.out.1.nd]; rfl)
        clear hq hqm hqr hlr hcq hjv
        refine wp_region_K (k := 7) (S := fun w' => w'.cell? ⟨gn, 3, none⟩ = some vP) (by kernel_rfl) (HC8.out) (fun hW => ?_)
        have WDB := Aside0.mk (show Below w8.heap.size w8 w8.drew from below_drew (Below.refl _ _))
        generalize hWd : w8.drew = Wd at *
        clear hWd
        refine wpAnyK_take (i := 0) (oi := ⟨some 44, _, _, _, _, _⟩) (v := .pointer (some ⟨gn, 3, none⟩)) rfl (by kernel_rfl) (by kernel_rfl) (by kernel_rfl) (by kernel_rfl) (by kernel_rfl) (fun _ _ _ h => h) (.inl ⟨by rfl, fun W1 h1 => by go_simp⟩) hW ?_
        try simp only [Act.put, List.setIfInBounds_toArray, List.set_cons_zero, List.set_cons_succ]
        refine wpAnyK_take (i := 1) (oi := ⟨some 45, _, _, _, _, _⟩) (v := vP) rfl (by kernel_rfl) (by kernel_rfl) (by kernel_rfl) (by kernel_rfl) (by kernel_rfl) (fun _ _ _ h => h) (.inl ⟨by rfl, fun W1 h1 => by skip; go_simp⟩) hW ?_
        try simp only [Act.put, List.setIfInBounds_toArray, List.set_cons_zero, List.set_cons_succ]
        refine wpAnyK_take (i := 2) (oi := ⟨some 46, _, _, _, _, _⟩) (v := .pointer (some ⟨gr, 0, none⟩)) rfl (by kernel_rfl) (by kernel_rfl) (by kernel_rfl) (by kernel_rfl) (by kernel_rfl) (fun _ _ _ h => h) (.inl ⟨by rfl, fun W1 h1 => by go_simp⟩) hW ?_
        try simp only [Act.put, List.setIfInBounds_toArray, List.set_cons_zero, List.set_cons_succ]
        refine wpAnyK_ready (rs := [3]) (by kernel_rfl) (by simp) (AllReadyK.early rfl (fun K1 hK1 => ?_) AllReadyK.nil)
        go_simp
        have HLd := Aside0.mk (LS.below HL8.out.1 WDB.out)
        refine (kid137 w gr q lr _ HQ.out.2.1 HQ.out.2.2.1 Wd HLd.out.rd).mono ?_
        rintro e w9 ⟨rfl, hr9, hk9⟩
        have HL9 := Aside0.mk (HLd.out.read HGN.out.2 HGR.out hr9 hk9)
        have K9 : K5 w8 w9 := (K5.of_below WDB.out).then_ (by obtain ⟨A', c', _, _, hgr⟩ := HLd.out.rd.blk; exact K5.of_one hk9.kept hgr (by decide))
        have HT9 := Aside0.mk ((HL8.out.2.1.below WDB.out).kept hk9.kept (fun q hq => by have := HGN.out; omega))
        have HE9 := Aside0.mk (And.intro (HE8.out.1.kept K9) (HE8.out.2.1.kept K9))
        have HA9 := Aside0.mk (And.intro (C8_K5 HE8.out.2.2.1 HE8.out.2.2.2 K9) (B5_K5 HE8.out.2.2.2 K9))
        rw [← HQ.out.2.2.2.1]
        have hW9 : w9.cell? ⟨gn, 3, none⟩ = some vP := by rw [cell_of_row _ _ 3 _ 39 (0, 0) HL9.out.nd]; rfl
        refine hK1.out _ _ (hW9) (fun hW => ?_)
        try simp only [Act.put, List.setIfInBounds_toArray, List.set_cons_zero, List.set_cons_succ]
        clear hW9 hr9 hk9 K9
        refine wpAnyK_ready (rs := [4]) (by kernel_rfl) (by simp) (AllReadyK.early rfl (fun K2 hK2 => ?_) AllReadyK.nil)
        refine wp_one_P (o := ⟨some 48, _, _, _, _, _⟩) (.tmp 47) rfl q HQ.out.2.1.1 (by show Value.agg cq = _; rw [HQ.out.2.2.2.1]) ?_
        refine hK2.out _ _ ((by rw [cell_of_row _ _ 3 _ 39 (0, 0) (blk_alloc HL9.out.nd _)]; rfl)) (fun hW => ?_)
        try simp only [Act.put, List.setIfInBounds_toArray, List.set_cons_zero, List.set_cons_succ]
        refine wpAnyK_ready (rs := [5]) (by kernel_rfl) (by simp) (AllReadyK.early rfl (fun K3 hK3 => ?_) AllReadyK.nil)
        have hlt10 : (kids.take j).length ≤ 100000 := by rw [List.length_take]; omega
        refine wp_appP (o := ⟨some 49, _, _, _, _, _⟩) (w0 := w9) (gn + 1) (fun k => some k ≠ (Value.slice AK nK cK).ownBlock ∧ some k ≠ vV.ownBlock) (.tmp 45) (.tmp 48) rfl vP (kids.take j) q HQ.out.2.1.1 rfl rfl rfl HT9.out.r3 HT9.out.turn.turn.fresh (Below.refl _ _) HL9.out.sz hlt10 ?_
        intro vV' w10 hr10 hb10 hg10 ho10
        obtain ⟨AV, cV, rfl, hleV, hCV⟩ := Kd.R_reads hr10
        clear hleV hCV hlt10
        generalize hnV : (kids.take j ++ [q]).length = nV at *
        clear hnV
        have HL10 := Aside0.mk (HL9.out.grown HGN.out.2 HGR.out HT9.out.turn.turn (by decide) hr10 hb10 hg10 ho10 3)
        have HM10 := Aside0.mk ((hb10.block gn (Nat.lt_succ_self _)).trans HL9.out.nd)
        clear hr10 hb10 hg10 ho10
        refine hK3.out _ _ ((by rw [cell_of_row _ _ 3 _ 39 (0, 0) HM10.out]; rfl)) (fun hW => ?_)
        try simp only [Act.put, List.setIfInBounds_toArray, List.set_cons_zero, List.set_cons_succ]
        refine wpAnyK_take (i := 6) (oi := ⟨some 50, _, _, _, _, _⟩) (v := .pointer (some ⟨gn, 3, none⟩)) rfl (by kernel_rfl) (by kernel_rfl) (by kernel_rfl) (by kernel_rfl) (by kernel_rfl) (fun _ _ _ h => h) (.inl ⟨by rfl, fun W1 h1 => by go_simp⟩) hW ?_
        try simp only [Act.put, List.setIfInBounds_toArray, List.set_cons_zero, List.set_cons_succ]
        refine wpAnyK_ready (rs := [7]) (by kernel_rfl) (by simp) (AllReadyK.late rfl (by kernel_rfl) (fun K4 hK4 => ?_) AllReadyK.nil)
        have hf10 := frozen_of_row w10 gn 3 _ 39 HM10.out
        have q10 : w10.cell? ⟨gn, 3, none⟩ = some vP := by rw [cell_of_row _ _ 3 _ 39 (0, 0) HM10.out]; rfl
        go_simp
        clear hf10 q10
        refine hK4.out _ _ ?_
        try simp only [Act.put, List.setIfInBounds_toArray, List.set_cons_zero, List.set_cons_succ]
        refine wpAnyK_done (by kernel_rfl) ?_ _
        clear hK1 hK2 hK3 hK4 K1 K2 K3 K4
        clear WDB hW HC8
        obtain ⟨w11, hw11⟩ : ∃ W, W = w10.setCell ⟨gn, 3, none⟩ (.slice AV nV cV) := ⟨_, rfl⟩
        rw [← hw11] at HL10 ⊢
        clear hw11 HM10
        have HF := Aside0.mk (show Three kT 36 kT 36 kP 32 w11 (gn + 1) (.slice AK nK cK) vV (.slice AV nV cV) (tsK ++ [(⟨A6, m, c6⟩ : Tri)]) tsV (kids.take (j + 1)) ∧ (El w11 (tsK ++ [(⟨A6, m, c6⟩ : Tri)]) (x.keys.take (j + 1)) ∧ El w11 tsV (vals.take (j + 1))) ∧ C8 w11 A6 m (prevK x (j + 1)) ∧ B5 w11 A6 ∧ m ≤ 160 ∧ m ≤ c6 by
          have hk5 := HL10.out.2.2
          have hval : vals = [] := by
            have hLi := HX.out.1.shape.lists
            unfold Lists at hLi
            rw [if_neg (by rw [← HLV.out]; exact H0.out), ← HVK.out.1] at hLi
            exact List.length_eq_zero_iff.1 hLi.2
          have hT := HL10.out.2.1.turn
          have hE := HE9.out.2.kept hk5
          rw [hval, List.take_nil] at hE ⊢
          rw [take_succ_getD (d := zeroP) HQ.out.2.2.2.2, ← HQ.out.1]
          refine ⟨hT, ⟨HE9.out.1.kept hk5, hE⟩, ?_, B5_K5 HA9.out.2 hk5, by rw [HKK.out.2.2.2.2]; exact HKK.out.2.2.2.1, ?_⟩
          · rw [show prevK x (j + 1) = x.keys.getD j [] from rfl, ← HKK.out.1]
            exact C8_K5 HA9.out.1 HA9.out.2 hk5
          · exact HC6.out)
        go_wp2_with fail
        go_roundw
        case rel => exact ⟨j + 1, m, c6, A6, .slice AK nK cK, vV, .slice AV nV cV, tsK ++ [⟨A6, m, c6⟩], tsV, by go_num, rfl, by omega, ⟨HL10.out.1⟩, ⟨HF.out.1⟩, ⟨HF.out.2.1⟩, ⟨HF.out.2.2⟩⟩
        case measure => simp [intOf]; omega
    · obtain rfl : j = n1 := by omega
      obtain ⟨AK, cK, rfl, hleK, hCK⟩ := Kd.R_reads HT.out.r1
      obtain ⟨AV, cV, rfl, hleV, hCV⟩ := Kd.R_reads HT.out.r2
      obtain ⟨AP, cP, rfl, hleP, hCP⟩ := Kd.R_reads HT.out.r3
      have hlr : restL x j = [] := by rw [HN1.out]; exact restL_end x
      have hkk : x.keys.take j = x.keys := by rw [HN1.out, List.take_length]
      have hvv : vals.take j = vals := by
        refine List.take_of_length_le ?_
        have hLi := HX.out.1.shape.lists
        unfold Lists at hLi
        rw [HVK.out.1, HN1.out]
        split at hLi <;> omega
      have hpp : kids.take j = kids := by
        refine List.take_of_length_le ?_
        have hLi := HX.out.1.shape.lists
        unfold Lists at hLi
        rw [HVK.out.2, HN1.out]
        split at hLi <;> omega
      rw [hkk, hvv] at HE
      rw [hpp] at hleP hCP HLS HT
      have lK : tsK.length = x.keys.length := HE.out.1.1
      have lV : tsV.length = x.vals.length := by rw [← HVK.out.1]; exact HE.out.2.1
      have lP : kids.length = x.kids.length := by rw [HVK.out.2]
      rw [lK, lV, lP] at HLS
      rw [lK] at hleK hCK
      rw [lV] at hleV hCV
      rw [lP] at hleP hCP
      rw [hlr] at HLS
      obtain ⟨ns, hns⟩ : ∃ ns : Ns, ns = ⟨AK, cK, AV, cV, AP, cP⟩ := ⟨_, rfl⟩
      have HNV := Aside0.mk (show NV wr x ns by
        rw [hns]
        exact ⟨C_of_El hCK HE.out.1, by have := C_of_El hCV HE.out.2; rwa [HVK.out.1] at this, by rwa [HVK.out.2] at hCP, hleK, hleV, hleP⟩)
      obtain ⟨cs, hcs⟩ : ∃ cs, cs = encN x ns := ⟨_, rfl⟩
      have HND := Aside0.mk (show wr.heap[gn]? = some (.cells cs 39 (0, 0)) by rw [HLS.out.nd, hcs, hns, HLV.out])
      have HCS := Aside0.mk (And.intro hcs ((And.intro (show cs.size = 4 by rw [hcs]; rfl) (show cs.all (·.oneCell') = true by rw [hcs, ← Array.all_toList]; rfl))))
      have HRD := Aside0.mk HLS.out.rd
      have HRS := Aside0.mk HLS.out.rs
      have HBW := Aside0.mk HLS.out.rd.below
      obtain ⟨Ar, cr, hCr, _, hgr⟩ := HLS.out.rd.blk
      have q0 : wr.cell? ⟨gr, 1, none⟩ = some (.bool false) := by rw [cell_of_row _ _ 1 _ 210 (0, 0) hgr]; rfl
      have q1 : wr.cell? ⟨gr, 0, none⟩ = some (.slice Ar 0 cr) := by rw [cell_of_row _ _ 0 _ 210 (0, 0) hgr]; rfl
      have HNW := Aside0.mk (show ∀ W', Kept wr W' (fun k => k < gn + 1 ∧ ∀ cs fz, wr.heap[k]? ≠ some (.cells cs 5 fz)) → NT W' x ns tsK from fun W' hK => by
        have h3 := HT.out.kept hK (fun k hk => hk.1)
        have hk5 : K5 wr W' := K5.of_kept hK (fun k hk => hk.2)
        obtain ⟨A1, c1, e1, l1, C1⟩ := Kd.R_reads h3.r1
        obtain ⟨A2, c2, e2, l2, C2⟩ := Kd.R_reads h3.r2
        obtain ⟨A3, c3, e3, l3, C3⟩ := Kd.R_reads h3.r3
        injection e1 with e1 _ e1'
        injection e2 with e2 _ e2'
        injection e3 with e3 _ e3'
        subst e1 e1' e2 e2' e3 e3'
        rw [lK] at l1 C1
        rw [lV] at l2 C2
        rw [lP] at l3 C3
        rw [hns]
        exact ⟨⟨C_of_El C1 (HE.out.1.kept hk5), by have := C_of_El C2 (HE.out.2.kept hk5); rwa [HVK.out.1] at this, by rwa [HVK.out.2] at C3, l1, l2, l3⟩, C1, HE.out.1.kept hk5⟩)
      clear lK lV lP hleK hCK hleV hCV hleP hCP hlr hkk hvv hpp hns hcs HE HT HLS hgr hCr HA
      obtain ⟨g0, hg0⟩ : ∃ g, g = w.heap.size := ⟨_, rfl⟩
      have HG0 := Aside0.mk hg0
      have HRS2 := Aside0.mk (show wr.heap[g0]? = some (.cells #[.int .i64 0, .slice none 0 0, .slice none 0 0, .slice none 0 0] 39 (0, 0)) by rw [hg0]; exact HRS.out)
      rw [← hg0]
      clear hg0 HRS
      go_wp2_with (refine gate_on (o := ⟨some 65, _, _, _, _, _⟩) (by rfl) ?_; dsimp only; refine wpList_load_row rfl 39 (.tmp 5) rfl gn rfl 39 cs (0, 0) _ HND.out Tryz.underlying39 rfl (by rw [HCS.out.2.1]; kernel_rfl) ?_)
      have T1 := right98 x ns wr HNV.out HX.out.1
      rw [← HCS.out.1] at T1
      refine T1.mono ?_
      clear T1 q0 q1
      rintro e w6 ⟨rfl, hb6⟩
      have HB6 := Aside0.mk hb6
      have HND6 := Aside0.mk (blk_below HND.out hb6)
      clear hb6
      go_wp2_with (refine gate_on (o := ⟨some 70, _, _, _, _, _⟩) (by rfl) ?_; dsimp only; refine wpList_load_row rfl 39 (.tmp 5) rfl gn rfl 39 cs (0, 0) _ HND6.out Tryz.underlying39 rfl (by rw [HCS.out.2.1]; kernel_rfl) ?_)
      have T2 := bytes81 x ns w6 (HNV.out.below HB6.out) HX.out.1.shape
      rw [← HCS.out.1] at T2
      refine T2.mono ?_
      clear T2
      rintro e w7 ⟨v7, rfl, hr7, hb7⟩
      obtain ⟨A7, c7, rfl, hle7, hC7⟩ := Kd.R_reads hr7
      have HB7 := Aside0.mk (below_then HB6.out HB6.out.size hb7)
      obtain ⟨S, hS⟩ : ∃ S, S = strOfNums b := ⟨_, rfl⟩
      have T3 := Tryz.bytes_Equal_strs (.slice A7 (nodeL x).length c7) (.slice A n c) S S w7 (by rw [hS, HX.out.2.1]; exact Kd.C_string (P := Tryz.prog) (c := c7) Tryz.underlying36 Tryz.underlying5 Tryz.underlying9 hC7) (by rw [hS]; exact Kd.C_string (P := Tryz.prog) (c := c) Tryz.underlying36 Tryz.underlying5 Tryz.underlying9 (Kd.C_below HX.out.2.2.1 (below_then HBW.out HBW.out.size HB7.out)))
      have T4 : Calls Tryz.prog 138 #[.slice A7 (nodeL x).length c7, .slice A n c] w7 fun e w' => e = .returned (.bool true) ∧ w7 = w' := T3.mono fun e w' h => ⟨by rw [h.1]; simp, h.2.symm⟩
      have HND7 := Aside0.mk (blk_below HND.out HB7.out)
      have HRS7 := Aside0.mk (blk_below HRS2.out HB7.out)
      generalize hn7 : (nodeL x).length = n7 at *
      clear hb7 hr7 hle7 hC7 T3 hS hn7
      go_upto_region 17 with ((with_reducible refine T4.mono ?_); rintro e w' ⟨rfl, rfl⟩)
      go_wp2_with (first | (refine wpList_store_row rfl 39 (.tmp 2) (.tmp 77) rfl g0 cs rfl rfl 39 _ HRS7.out (by rw [HCS.out.2.1]; kernel_rfl) (by rw [HCS.out.2.1]; rfl) HCS.out.2.2 ?_) | (refine wpList_load_row rfl 39 (.tmp 5) rfl gn rfl 39 cs (0, 0) _ HND7.out Tryz.underlying39 rfl (by rw [HCS.out.2.1]; kernel_rfl) ?_))
      refine bodyPost_ret (res_ct (p := 2) (q := 3) _ rfl rfl (setRow_heap _ g0 _ cs 39 _ HRS7.out) Tryz.underlying39 rfl (by rw [HCS.out.2.1]; kernel_rfl)) rfl ?_
      rw [HP.out]
      refine ⟨ns, tsK, by rw [← HCS.out.1]; rfl, ?_, ?_⟩
      · intro W' hK
        refine HNW.out W' ?_
        have hlt := blk_lt HRS2.out
        have e0 : ∀ k, k < wr.heap.size → k ≠ g0 → (w7.setRow g0 cs).heap[k]? = wr.heap[k]? := fun k hk hne => (setRow_other _ _ _ _ hne).trans (HB7.out.block k hk)
        refine ⟨Nat.le_trans HB7.out.size (by have := hK.1; simpa using this), fun i hi hn => ?_⟩
        have hig : i ≠ g0 := fun e => hn ⟨by have := HGN.out; have := HGR.out; have := HG0.out; omega, fun cs' fz' e2 => by rw [e, HRS2.out] at e2; injection e2 with e2; injection e2 with _ e2 _; exact absurd e2 (by decide)⟩
        rw [hK.2 i (by have := HB7.out.size; simp; omega) (fun h => hn ⟨by have := HGN.out; have := HGR.out; omega, fun cs' fz' e2 => h.2 cs' fz' ((e0 i hi hig).trans e2)⟩)]
        exact e0 i hi hig
      · exact (KB_setRow (KB.of_below (below_then HBW.out HBW.out.size HB7.out) (fun _ => False)) (Nat.le_of_eq HG0.out.symm) cs).to_below (fun k h => h.elim) (Nat.le_refl _)
end Go.Proofs.YtchhdafgmifhdaaGreat.LeaM
namespace Go.Proofs.YtchhdafgmifhdaaGreat.LodK
open Go.RowKit Go.Proofs.YtchhdafgmifhdaaGreat.B8 Go.Proofs.YtchhdafgmifhdaaGreat.Agg Go.Proofs.YtchhdafgmifhdaaGreat.CodL Go.Proofs.YtchhdafgmifhdaaGreat.CodA Go.Proofs.YtchhdafgmifhdaaGreat.CodB Go.Proofs.YtchhdafgmifhdaaGreat.CrcL Go.Proofs.YtchhdafgmifhdaaGreat.CrcA Go.Proofs.YtchhdafgmifhdaaGreat.CrcB Go.Proofs.YtchhdafgmifhdaaGreat.PVerifyForms Go.Proofs.YtchhdafgmifhdaaGreatW.PrintWords Go.Proofs.YtchhdafgmifhdaaGreatW.PrintLast Go.Proofs.YtchhdafgmifhdaaGreatW.PrintMore Go.Proofs.YtchhdafgmifhdaaGreat.CatL Go.Proofs.YtchhdafgmifhdaaGreat.PtrA Go.Proofs.YtchhdafgmifhdaaGreat.PtrB Go.Proofs.YtchhdafgmifhdaaGreat.PtrE Go.Proofs.YtchhdafgmifhdaaGreat.OfA Go.Proofs.YtchhdafgmifhdaaGreat.ExtL Go.Proofs.YtchhdafgmifhdaaGreat.ExtA Go.Proofs.YtchhdafgmifhdaaGreat.DskA Go.Proofs.YtchhdafgmifhdaaGreat.DskB Go.Proofs.YtchhdafgmifhdaaGreat.DskC Go.Proofs.YtchhdafgmifhdaaGreat.AlcA Go.Proofs.YtchhdafgmifhdaaGreat.BlkA Go.Proofs.YtchhdafgmifhdaaGreat.BlkB Go.Proofs.YtchhdafgmifhdaaGreat.PoolA Go.Proofs.YtchhdafgmifhdaaGreat.ShaK Go.Proofs.YtchhdafgmifhdaaGreat.PoolB Go.Proofs.YtchhdafgmifhdaaGreat.DskK Go.Proofs.YtchhdafgmifhdaaGreat.BlkK Go.Proofs.YtchhdafgmifhdaaGreat.ChkK Go.Proofs.YtchhdafgmifhdaaGreat.BrdK Go.Proofs.YtchhdafgmifhdaaGreat.PolK Go.Proofs.YtchhdafgmifhdaaGreat.LeaA Go.Proofs.YtchhdafgmifhdaaGreat.LeaB Go.Proofs.YtchhdafgmifhdaaGreat.LeaC Go.Proofs.YtchhdafgmifhdaaGreat.LeaD Go.Proofs.YtchhdafgmifhdaaGreat.LeaF Go.Proofs.YtchhdafgmifhdaaGreat.LeaK Go.Proofs.YtchhdafgmifhdaaGreat.LeaM Go.Proofs.YtchhdafgmifhdaaGreat.LeaO Go.Proofs.YtchhdafgmifhdaaGreat.AlcD Go.Proofs.YtchhdafgmifhdaaGreat.ExtF Go.Proofs.YtchhdafgmifhdaaGreat.ExtG Go.Proofs.YtchhdafgmifhdaaGreat.ExtE Go.Proofs.YtchhdafgmifhdaaGreat.ExtD
set_option linter.unusedVariables false
set_option linter.unusedSimpArgs false
abbrev Zn : Array Value := #[.int .i64 0, .slice none 0 0, .slice none 0 0, .slice none 0 0]
def LdOut (w : World) (x : Nd) (e : Ending) (w' : World) : Prop := ∃ s ts, e = .returned (.tuple #[.agg (encN x s), .int .i64 0]) ∧ NF w' w.heap.size x s ts ∧ Below w.heap.size w w'
set_option maxRecDepth 100000 in
set_option maxHeartbeats 8000000 in
theorem load49 (p d m lb a mw N : Nat) (fr tu rs : Int) (l : List Sp) (ep : Int) (kv : Value) (rd : Int → List Int) (x : Nd) (q : Ptr) (w : World) (h : PV w p d m lb a mw N fr tu rs l ep kv rd) (hN : 0 < N) (htu : fr < tu)
    (hh : Holds rd q (nodeL x)) (hx : RightN x) (hR : Right q) (hq : q.at_ + sect q.len ≤ N) :
    Calls Tryz.prog 49 #[.pointer (some ⟨p, 0, none⟩), .agg (encP q)] w (LdOut w x) := by
  obtain ⟨P, hP⟩ : ∃ P : Ending → World → Prop, P = LdOut w x := ⟨_, rfl⟩
  rw [← hP]
  have HP := Aside0.mk hP
  clear hP
  obtain ⟨cq, hcq⟩ : ∃ cs, cs = encP q := ⟨_, rfl⟩
  have HCQ := Aside0.mk (And.intro hcq (show cq.size = 36 by rw [hcq]; exact encP_size hh.ok.len))
  obtain ⟨g3, hg3⟩ : ∃ g, g = w.heap.size := ⟨_, rfl⟩
  obtain ⟨W0, hW0⟩ : ∃ W, W = (w.alloc (.cells cq 32)).alloc (.cells Zn 39) := ⟨_, rfl⟩
  have HB0 := Aside0.mk (show Below w.heap.size w W0 by rw [hW0]; exact below_alloc (below_alloc (Below.refl _ _) _) _)
  have H0 := Aside0.mk (h.below HB0.out)
  have HG3 := Aside0.mk (show W0.heap[g3]? = some (.cells cq 32 (0, 0)) by rw [hW0, hg3]; exact blk_alloc (blk_new w _) _)
  have HG4 := Aside0.mk (show W0.heap[g3 + 1]? = some (.cells Zn 39 (0, 0)) by rw [hW0, hg3]; have := blk_new (w.alloc (.cells cq 32)) (.cells Zn 39); simpa using this)
  have HGE := Aside0.mk hg3
  have HX := Aside0.mk (And.intro hh (And.intro hx (And.intro hR hq)))
  have HNN := Aside0.mk (And.intro hN htu)
  rw [← hcq]
  clear h hh hx hR hq hcq hN htu
  go_enter Tryz.func49, Tryz.ntmps49
  go_wp2_with fail
  rw [← hg3, ← hW0]
  clear hg3 hW0
  refine (ready12 p d m a mw N fr tu rs l ep kv W0 H0.out.po HNN.out.1 HNN.out.2).mono ?_
  rintro e W1 ⟨rfl, hb1⟩
  have HB1 := Aside0.mk (below_then HB0.out HB0.out.size hb1)
  have H1 := Aside0.mk (H0.out.below hb1)
  have HG31 := Aside0.mk (blk_below HG3.out hb1)
  have HG41 := Aside0.mk (blk_below HG4.out hb1)
  clear hb1
  go_upto_region 4 with (fail)
  have C0 := Aside0.mk (show W1.cell? ⟨p, 0, none⟩ = some (.pointer (some ⟨d, 0, none⟩)) by rw [cell_of_row _ _ 0 _ 28 (0, 0) H1.out.po.blk]; rfl)
  have hp1 := H1.out.po.lt
  have hl3 := blk_lt HG31.out
  refine wp_region_held_drew (S := fun w' => Below W1.heap.size W1 w') (by kernel_rfl) (below_drew (Below.refl _ _)) (fun hW => ?_)
  have WDB := Aside0.mk (show Below W1.heap.size W1 W1.drew from below_drew (Below.refl _ _))
  generalize hWd : W1.drew = Wd at *
  clear hWd
  refine wpAnyH_take (i := 0) (oi := ⟨some 16, _, _, _, _, _⟩) (v := .pointer (some ⟨p, 0, none⟩)) rfl (by kernel_rfl) (by kernel_rfl) (by kernel_rfl) (fun _ _ _ h => h) (.inl ⟨by rfl, fun W1 h1 => by go_simp⟩) hW ?_
  try simp only [Act.put, List.setIfInBounds_toArray, List.set_cons_zero, List.set_cons_succ]
  refine wpAnyH_take (i := 1) (oi := ⟨some 17, _, _, _, _, _⟩) (v := .pointer (some ⟨p, 0, none⟩)) rfl (by kernel_rfl) (by kernel_rfl) (by kernel_rfl) (fun _ _ _ h => h) (.inl ⟨by rfl, fun W1 h1 => by go_simp⟩) hW ?_
  try simp only [Act.put, List.setIfInBounds_toArray, List.set_cons_zero, List.set_cons_succ]
  refine wpAnyH_take (i := 2) (oi := ⟨some 18, _, _, _, _, _⟩) (v := .pointer (some ⟨p, 0, none⟩)) rfl (by kernel_rfl) (by kernel_rfl) (by kernel_rfl) (fun _ _ _ h => h) (.inl ⟨by rfl, fun W1 h1 => by go_simp⟩) hW ?_
  try simp only [Act.put, List.setIfInBounds_toArray, List.set_cons_zero, List.set_cons_succ]
  refine wpAnyH_take (i := 3) (oi := ⟨some 19, _, _, _, _, _⟩) (v := .pointer (some ⟨d, 0, none⟩)) rfl (by kernel_rfl) (by kernel_rfl) (by kernel_rfl) (fun _ _ _ h => h) (.inl ⟨by rfl, fun W1 h1 => by have h2 := (Below.cell (p := ⟨p, 0, none⟩) h1 hp1).trans C0.out; clear h1; go_simp⟩) hW ?_
  try simp only [Act.put, List.setIfInBounds_toArray, List.set_cons_zero, List.set_cons_succ]
  refine wpAnyH_take (i := 4) (oi := ⟨some 20, _, _, _, _, _⟩) (v := .agg cq) rfl (by kernel_rfl) (by kernel_rfl) (by kernel_rfl) (fun _ _ _ h => h) (yields_row (by rfl) 32 _ rfl (g3) rfl 32 cq (0, 0) _ (fun w1 h1 => (h1.block g3 hl3).trans HG31.out) underl56 rfl (by rw [i33, HCQ.out.2])) hW ?_
  try simp only [Act.put, List.setIfInBounds_toArray, List.set_cons_zero, List.set_cons_succ]
  refine wpAnyH_ready (rs := [5]) (by kernel_rfl) (by simp) (AllReadyH.cons rfl (fun K1 hK1 => ?_) AllReadyH.nil)
  go_simp
  have T1 := read91 d m N lb rd q (nodeL x) Wd (H1.out.sv.below WDB.out) HX.out.1 (nodeL_byt HX.out.2.1.shape) HX.out.2.2.1 HX.out.2.2.2
  rw [← HCQ.out.1] at T1
  refine T1.mono ?_
  clear T1
  rintro e W2 ⟨gb, rfl, hgb, hC2, hb2⟩
  have HC2 := Aside0.mk hC2
  obtain ⟨n, hn⟩ : ∃ n, n = (nodeL x).length := ⟨_, rfl⟩
  rw [← hn]
  have HN := Aside0.mk hn
  refine hK1.out _ _ (hW.trans (hb2.mono hW.size)) (fun hW => ?_)
  try simp only [Act.put, List.setIfInBounds_toArray, List.set_cons_zero, List.set_cons_succ]
  clear hb2 hC2 hn hgb
  refine wpAnyH_take (i := 6) (oi := ⟨some 15, _, _, _, _, _⟩) (v := .tuple #[.slice (some ⟨gb, 0, none⟩) n n, .int .i64 0]) rfl (by kernel_rfl) (by kernel_rfl) (by kernel_rfl) (fun _ _ _ h => h) (.inl ⟨by rfl, fun W1 h1 => by go_simp⟩) hW ?_
  try simp only [Act.put, List.setIfInBounds_toArray, List.set_cons_zero, List.set_cons_succ]
  refine wpAnyH_take (i := 7) (oi := ⟨some 22, _, _, _, _, _⟩) (v := .slice (some ⟨gb, 0, none⟩) n n) rfl (by kernel_rfl) (by kernel_rfl) (by kernel_rfl) (fun _ _ _ h => h) (.inl ⟨by rfl, fun W1 h1 => by go_simp⟩) hW ?_
  try simp only [Act.put, List.setIfInBounds_toArray, List.set_cons_zero, List.set_cons_succ]
  refine wpAnyH_take (i := 8) (oi := ⟨some 23, _, _, _, _, _⟩) (v := .int .i64 0) rfl (by kernel_rfl) (by kernel_rfl) (by kernel_rfl) (fun _ _ _ h => h) (.inl ⟨by rfl, fun W1 h1 => by go_simp⟩) hW ?_
  try simp only [Act.put, List.setIfInBounds_toArray, List.set_cons_zero, List.set_cons_succ]
  refine wpAnyH_take (i := 9) (oi := ⟨some 7, _, _, _, _, _⟩) (v := .slice (some ⟨gb, 0, none⟩) n n) rfl (by kernel_rfl) (by kernel_rfl) (by kernel_rfl) (fun _ _ _ h => h) (.inl ⟨by rfl, fun W1 h1 => by go_simp⟩) hW ?_
  try simp only [Act.put, List.setIfInBounds_toArray, List.set_cons_zero, List.set_cons_succ]
  refine wpAnyH_take (i := 10) (oi := ⟨some 8, _, _, _, _, _⟩) (v := .int .i64 0) rfl (by kernel_rfl) (by kernel_rfl) (by kernel_rfl) (fun _ _ _ h => h) (.inl ⟨by rfl, fun W1 h1 => by go_simp⟩) hW ?_
  try simp only [Act.put, List.setIfInBounds_toArray, List.set_cons_zero, List.set_cons_succ]
  refine wpAnyH_done (by kernel_rfl) ?_ _
  clear hK1 K1
  clear WDB
  have HW2 := Aside0.mk hW
  clear hW
  go_upto_region 7 with (fail)
  have T2 := read92 x (some ⟨gb, 0, none⟩) n n (nodeL x) HX.out.2.1 rfl W2 (by rw [HN.out]; exact HC2.out) (Nat.le_refl _)
  go_wp2_with fail
  refine T2.mono ?_
  clear T2
  rintro e W3 ⟨s, ts, rfl, hnf, hb3⟩
  obtain ⟨cs, hcs⟩ : ∃ cs, cs = encN x s := ⟨_, rfl⟩
  have HCS := Aside0.mk (And.intro hcs (And.intro (show cs.size = 4 by rw [hcs]; rfl) (show cs.all (·.oneCell') = true by rw [hcs, ← Array.all_toList]; rfl)))
  rw [← hcs]
  have HB3 := Aside0.mk (HB1.out.trans ((HW2.out.mono HB1.out.size).trans (hb3.mono (Nat.le_trans HB1.out.size HW2.out.size))))
  have HR3 := Aside0.mk (show W3.heap[g3 + 1]? = some (.cells Zn 39 (0, 0)) from blk_below (blk_below HG41.out HW2.out) hb3)
  have HNF := Aside0.mk (hnf.lower (B' := W1.heap.size) HW2.out.size)
  have HL4 := Aside0.mk (blk_lt HG41.out)
  clear hcs hnf hb3
  go_wp2_with (refine wpList_store_row rfl 39 (.tmp 4) (.tmp 30) rfl (g3 + 1) cs rfl rfl 39 _ HR3.out (by rw [HCS.out.2.1]; kernel_rfl) (by rw [HCS.out.2.1]; rfl) HCS.out.2.2 ?_)
  refine bodyPost_ret (res_ct (p := 4) (q := 5) _ rfl rfl (setRow_heap _ (g3 + 1) _ cs 39 _ HR3.out) Tryz.underlying39 rfl (by rw [HCS.out.2.1]; kernel_rfl)) rfl ?_
  rw [HP.out]
  refine ⟨s, ts, by rw [← HCS.out.1]; rfl, (HNF.out.row HL4.out HR3.out (by decide) cs).lower HB1.out.size, ?_⟩
  exact (KB_setRow (KB.of_below HB3.out (fun _ => False)) (by have := HGE.out; omega) cs).to_below (fun k h => h.elim) (Nat.le_refl _)
/-- What a row of bytes of one's own reads as, whatever becomes of elder blocks. -/
theorem R8_lasts {w : World} {base : Nat} {v : Value} {L : List Int} (h : R8 w base v L) : ∃ A c, v = .slice A L.length c ∧ L.length ≤ c ∧ ∀ (S : Nat → Prop) W', (∀ k, S k → k < base) → Kept w W' S → C8 W' A L.length L := by
  obtain ⟨A, c, rfl, hle, hC⟩ := Kd.R_reads h
  refine ⟨A, c, rfl, hle, fun S W' hS hk => ?_⟩
  have h2 := Kd.R_kept (Kd.R_bound h) hk (fun k hk hs => by have := hS k hs; have := hk.2.1; omega)
  obtain ⟨A', c', e, _, hC'⟩ := Kd.R_reads h2
  injection e with e1 _ e2
  subst e1
  exact hC'
set_option maxRecDepth 100000 in
set_option maxHeartbeats 8000000 in
theorem store11 (p d m lb a mw N : Nat) (fr tu rs : Int) (l : List Sp) (ep : Int) (kv : Value) (rd : Int → List Int) (x : Nd) (s : Ns) (w : World) (h : PV w p d m lb a mw N fr tu rs l ep kv rd) (hN : 0 < N) (htu : fr < tu)
    (hv : NV w x s) (hx : RightN x) (he1 : 1 ≤ ep) (he2 : ep ≤ 1152921504606846976)
    (k : Nat) (hk : (k : Int) = sect ((nodeL x).length : Int)) (f : Int) (hf : findI l (k : Int) = f) (hf2 : 2 ≤ f) (hf3 : f + k ≤ N) (hN8 : N ≤ 8192) (hrs : rs ≤ total l - k)
    (hvs : VS (-1) (remS l (f, f + k))) (hln : (remS l (f, f + k)).length ≤ 10000) (ht : 0 ≤ total (remS l (f, f + k)) ∧ total (remS l (f, f + k)) ≤ 8192) :
    Calls Tryz.prog 11 #[.pointer (some ⟨p, 0, none⟩), .agg (encN x s)] w (fun e w' => e = .returned (.tuple #[.agg (encP (ofP f ep (nodeL x))), .int .i64 0]) ∧ KB w w' (fun k => k = m ∨ k = a) ∧ PV w' p d m lb a mw N fr tu rs (remS l (f, f + k)) ep kv (putB rd f (nodeL x))) := by
  obtain ⟨P, hP⟩ : ∃ P : Ending → World → Prop, P = fun e w' => e = .returned (.tuple #[.agg (encP (ofP f ep (nodeL x))), .int .i64 0]) ∧ KB w w' (fun k => k = m ∨ k = a) ∧ PV w' p d m lb a mw N fr tu rs (remS l (f, f + k)) ep kv (putB rd f (nodeL x)) := ⟨_, rfl⟩
  rw [← hP]
  have HP := Aside0.mk hP
  clear hP
  obtain ⟨cs, hcs⟩ : ∃ cs, cs = encN x s := ⟨_, rfl⟩
  have HCS := Aside0.mk (And.intro hcs (show cs.size = 4 by rw [hcs]; rfl))
  obtain ⟨z, hz, hz1, hal⟩ := zero33
  have HZS := Aside0.mk (And.intro hz hz1)
  obtain ⟨g3, hg3⟩ : ∃ g, g = w.heap.size := ⟨_, rfl⟩
  obtain ⟨Wa, hWa⟩ : ∃ W, W = w.alloc (.cells cs 39) := ⟨_, rfl⟩
  obtain ⟨W0, hW0⟩ : ∃ W, W = Wa.alloc (.cells z 32) := ⟨_, rfl⟩
  have halw := hal Wa
  have HB0 := Aside0.mk (show Below w.heap.size w W0 by rw [hW0, hWa]; exact below_alloc (below_alloc (Below.refl _ _) _) _)
  have H0 := Aside0.mk (h.below HB0.out)
  have HV0 := Aside0.mk (hv.below HB0.out)
  have HG3 := Aside0.mk (show W0.heap[g3]? = some (.cells cs 39 (0, 0)) by rw [hW0, hWa, hg3]; exact blk_alloc (blk_new w _) _)
  have HG4 := Aside0.mk (show W0.heap[g3 + 1]? = some (.cells z 32 (0, 0)) by rw [hW0, hWa, hg3]; have := blk_new (w.alloc (.cells cs 39)) (.cells z 32); simpa using this)
  have HLT := Aside0.mk (And.intro hg3 (SV_lts h.sv hN))
  have HAL := Aside0.mk (show a < w.heap.size by obtain ⟨A, n, c, was, ha, _⟩ := h.po.alc.blk; exact blk_lt ha)
  have HX := Aside0.mk (And.intro hx (And.intro he1 he2))
  have HF := Aside0.mk (And.intro hk (And.intro hf (And.intro hf2 (And.intro hf3 (And.intro hN8 (And.intro hrs (And.intro hvs (And.intro hln ht))))))))
  have HNN := Aside0.mk (And.intro hN htu)
  rw [← hcs]
  clear h hv hx he1 he2 hk hf hf2 hf3 hN8 hrs hvs hln ht hcs hN htu hz hz1 hal
  rw [hWa] at halw
  go_enter Tryz.func11, Tryz.ntmps11
  go_wp2_with fail
  rw [← hWa, ← hW0, ← hg3]
  clear hg3 hW0 hWa halw
  refine (ready12 p d m a mw N fr tu rs l ep kv W0 H0.out.po HNN.out.1 HNN.out.2).mono ?_
  rintro e W1 ⟨rfl, hb1⟩
  have HB1 := Aside0.mk (below_then HB0.out HB0.out.size hb1)
  have H1 := Aside0.mk (H0.out.below hb1)
  have HV1 := Aside0.mk (HV0.out.below hb1)
  have HG31 := Aside0.mk (blk_below HG3.out hb1)
  have HG41 := Aside0.mk (blk_below HG4.out hb1)
  clear hb1
  go_upto_region 4 with (fail)
  go_wp2_with (refine wpList_load_row rfl 39 (.tmp 3) rfl g3 rfl 39 cs (0, 0) _ HG31.out Tryz.underlying39 rfl (by rw [HCS.out.2]; kernel_rfl) ?_)
  have T1 := put41 x s W1 HV1.out HX.out.1
  rw [← HCS.out.1] at T1
  refine T1.mono ?_
  clear T1
  rintro e W2 ⟨v2, rfl, hr2, hb2⟩
  obtain ⟨A2, c2, rfl, hle2, hC2⟩ := R8_lasts hr2
  obtain ⟨n, hn⟩ : ∃ n, n = (nodeL x).length := ⟨_, rfl⟩
  have HN := Aside0.mk hn
  have HC2 := Aside0.mk (And.intro hC2 hle2)
  have HB2 := Aside0.mk (below_then HB1.out HB1.out.size hb2)
  have H2 := Aside0.mk (H1.out.below hb2)
  have HG42 := Aside0.mk (blk_below HG41.out hb2)
  rw [← hn]
  clear hr2 hb2 hle2 hC2 hn
  go_upto_region 7 with (fail)
  have hs := HX.out.1.small
  have hf := HF.out
  have hn1 : 1 ≤ n := by
    rw [HN.out, nodeL, List.length_append, List.length_append]
    have : 1 ≤ (shortL x.lvl).length := by
      by_cases h : x.lvl < 128
      · rw [shortL_small h]; simp
      · rw [shortL_more h]; simp
    omega
  have T2 := lay42K p d m lb a mw N fr tu rs l ep kv A2 n c2 (nodeL x) rd W2 H2.out HNN.out.1 HNN.out.2
    (fun W' hk => by
      have := HC2.out.1 _ W' (fun q hq => by have := HLT.out; have := HAL.out; have := HB1.out.size; rcases hq with rfl | rfl <;> omega) hk
      rw [HN.out]
      exact this)
    (nodeL_byt HX.out.1.shape) (by rw [HN.out]; exact HC2.out.2) hn1 (by rw [HN.out]; omega) HX.out.2.1 HX.out.2.2 k (by rw [HN.out]; exact hf.1) f hf.2.1 hf.2.2.1 hf.2.2.2.1 hf.2.2.2.2.1 hf.2.2.2.2.2.1 hf.2.2.2.2.2.2.1 hf.2.2.2.2.2.2.2.1 hf.2.2.2.2.2.2.2.2
  obtain ⟨r3, hr3⟩ : ∃ r, r = encP (ofP f ep (nodeL x)) := ⟨_, rfl⟩
  have HR3 := Aside0.mk (And.intro hr3 (And.intro (show r3.size = 36 by rw [hr3]; exact encP_size (ShaE.shaL_len (nodeL x))) (show r3.all (·.oneCell') = true by rw [hr3]; exact encP_one _)))
  rw [← hr3] at T2
  clear hs hf hn1 hr3
  go_wp2_with fail
  refine T2.mono ?_
  clear T2
  rintro e W3 ⟨rfl, hk3, h3⟩
  have HK3 := Aside0.mk (show KB w W3 (fun k => k = m ∨ k = a) from (KB.of_below HB2.out _).then_ hk3 (fun k h => .inl h))
  have H3 := Aside0.mk h3
  have HR4 := Aside0.mk (show W3.heap[g3 + 1]? = some (.cells z 32 (0, 0)) from blk_kept HG42.out hk3.kept (by have := HLT.out; have := HAL.out; omega))
  clear hk3 h3
  go_wp2_with (refine wpList_store_row rfl 32 (.tmp 4) (.tmp 27) rfl (g3 + 1) r3 rfl rfl 32 _ HR4.out (by rw [i33, HR3.out.2.1]) (by rw [HR3.out.2.1, HZS.out.1]) HR3.out.2.2 ?_)
  refine bodyPost_ret (res_ct (p := 4) (q := 5) _ rfl rfl (setRow_heap _ (g3 + 1) _ r3 32 _ HR4.out) Tryz.underlying32 rfl (by rw [i33, HR3.out.2.1])) rfl ?_
  rw [HP.out]
  exact ⟨by rw [HR3.out.1]; rfl, KB_setRow HK3.out (by have := HLT.out; omega) _, PV_row H3.out HR4.out (by have := HLT.out; omega) _⟩
end Go.Proofs.YtchhdafgmifhdaaGreat.LodK
namespace Go.Proofs.YtchhdafgmifhdaaGreat.StrL
open Go.RowKit Go.Proofs.YtchhdafgmifhdaaGreat.B8 Go.Proofs.YtchhdafgmifhdaaGreat.Agg Go.Proofs.YtchhdafgmifhdaaGreat.CodL Go.Proofs.YtchhdafgmifhdaaGreat.CodA Go.Proofs.YtchhdafgmifhdaaGreat.CodB Go.Proofs.YtchhdafgmifhdaaGreat.CrcL Go.Proofs.YtchhdafgmifhdaaGreat.CrcA Go.Proofs.YtchhdafgmifhdaaGreat.CrcB Go.Proofs.YtchhdafgmifhdaaGreat.PVerifyForms Go.Proofs.YtchhdafgmifhdaaGreatW.PrintWords Go.Proofs.YtchhdafgmifhdaaGreatW.PrintLast Go.Proofs.YtchhdafgmifhdaaGreatW.PrintMore Go.Proofs.YtchhdafgmifhdaaGreat.CatL Go.Proofs.YtchhdafgmifhdaaGreat.CmpK Go.Proofs.YtchhdafgmifhdaaGreat.LeaD
set_option linter.unusedVariables false
theorem str_inj {a b : List Int} (ha : Byt a) (hb : Byt b) (h : (strOfNums a).toList = (strOfNums b).toList) : a = b := by
  have h1 := bytesOf_str ha
  have h2 := bytesOf_str hb
  have h3 : strOfNums a = strOfNums b := by
    apply ByteArray.ext
    apply Array.toList_inj.1
    rw [Lib.strOfNums_toList, Lib.strOfNums_toList] at h
    have e : ∀ l : List Int, (strOfNums l).data.toList = Lib.bytesOf l := fun l => rfl
    rw [e, e, h]
  rw [← h1, ← h2, h3]
theorem str_eq {a b : List Int} (ha : Byt a) (hb : Byt b) : ((strOfNums a).toList == (strOfNums b).toList) = decide (a = b) := by
  rw [Bool.eq_iff_iff, beq_iff_eq, decide_eq_true_iff]
  exact ⟨str_inj ha hb, fun h => by rw [h]⟩
/-- Below, byte by byte. -/
def ltL (a b : List Int) : Bool := decide (cmpL a b = -1)
theorem less_cmp : ∀ (l m : List UInt8), Op.bytesLess l m = decide (Lib.compareBytes l m = -1)
  | [], [] => rfl
  | [], _ :: _ => rfl
  | _ :: _, [] => rfl
  | a :: l, b :: m => by
    have ih := less_cmp l m
    unfold Op.bytesLess Lib.compareBytes
    by_cases h1 : a < b
    · simp [h1]
    · by_cases h2 : b < a
      · have h3 : ¬ a = b := fun e => by subst e; exact h1 h2
        simp [h1, h2, h3]
      · have h3 : a = b := by
          rw [UInt8.lt_iff_toNat_lt] at h1 h2
          exact UInt8.toNat_inj.1 (by omega)
        simp [h1, h2, h3, ih]
theorem str_lt {a b : List Int} (ha : Byt a) (hb : Byt b) : Op.bytesLess (strOfNums a).toList (strOfNums b).toList = ltL a b := by
  rw [Lib.strOfNums_toList, Lib.strOfNums_toList, less_cmp, ltL, ← cmpL_bytes a b ha hb]
end Go.Proofs.YtchhdafgmifhdaaGreat.StrL
namespace Go.Proofs.YtchhdafgmifhdaaGreat.FitK
open Go.RowKit Go.Proofs.YtchhdafgmifhdaaGreat.B8 Go.Proofs.YtchhdafgmifhdaaGreat.Agg Go.Proofs.YtchhdafgmifhdaaGreat.CodL Go.Proofs.YtchhdafgmifhdaaGreat.CodA Go.Proofs.YtchhdafgmifhdaaGreat.CodB Go.Proofs.YtchhdafgmifhdaaGreat.CrcL Go.Proofs.YtchhdafgmifhdaaGreat.CrcA Go.Proofs.YtchhdafgmifhdaaGreat.CrcB Go.Proofs.YtchhdafgmifhdaaGreat.PVerifyForms Go.Proofs.YtchhdafgmifhdaaGreatW.PrintWords Go.Proofs.YtchhdafgmifhdaaGreatW.PrintLast Go.Proofs.YtchhdafgmifhdaaGreatW.PrintMore Go.Proofs.YtchhdafgmifhdaaGreat.CatL Go.Proofs.YtchhdafgmifhdaaGreat.PtrA Go.Proofs.YtchhdafgmifhdaaGreat.PtrB Go.Proofs.YtchhdafgmifhdaaGreat.PtrE Go.Proofs.YtchhdafgmifhdaaGreat.OfA Go.Proofs.YtchhdafgmifhdaaGreat.ExtA Go.Proofs.YtchhdafgmifhdaaGreat.KpA Go.Proofs.YtchhdafgmifhdaaGreat.LeaA Go.Proofs.YtchhdafgmifhdaaGreat.LeaC Go.Proofs.YtchhdafgmifhdaaGreat.LeaD Go.Proofs.YtchhdafgmifhdaaGreat.LeaJ Go.Proofs.YtchhdafgmifhdaaGreat.LeaO Go.Proofs.YtchhdafgmifhdaaGreat.StrL
set_option linter.unusedVariables false
set_option linter.unusedSimpArgs false
/-- A place: a child that is still to be gone into, and what is said of it (its bounds by where they lie). -/
structure Pl where
  at_ : Ptr
  lv : Int
  bi : Int
  fr : Tri
  be : Tri
  en : Bool
def encL (x : Pl) : Array Value := encP x.at_ ++ #[.int .i64 x.lv, .int .i64 x.bi, encT x.fr, encT x.be, .bool x.en]
theorem encL_size {x : Pl} (h : Ok x.at_) : (encL x).size = 41 := by simp [encL, encP_size h.len]
theorem encL_one (x : Pl) : (encL x).all (·.oneCell') = true := by
  rw [encL, Array.all_append, encP_one x.at_, Bool.true_and, ← Array.all_toList]
  rfl
theorem encL_lo {x : Pl} (h : Ok x.at_) {i : Nat} (hi : i < 36) : (encL x)[i]? = (encP x.at_)[i]? := by
  rw [encL, Array.getElem?_append_left (by rw [encP_size h.len]; exact hi)]
theorem encL_hi {x : Pl} (h : Ok x.at_) (i : Nat) : (encL x)[36 + i]? = #[.int .i64 x.lv, .int .i64 x.bi, encT x.fr, encT x.be, .bool x.en][i]? := by
  rw [encL, Array.getElem?_append_right (by rw [encP_size h.len]; omega), encP_size h.len, Nat.add_sub_cancel_left]
/-- Does a node fit a place? -/
def fitB (x : Pl) (f b : List Int) (n : Nd) : Bool :=
  decide (x.lv < 0) || (decide ((n.lvl : Int) = x.lv) && (decide (x.at_.birth ≤ x.bi) && (decide (n.keys.getD 0 [] = f) && (!x.en || ltL (n.keys.getD (n.keys.length - 1) []) b))))
set_option maxRecDepth 100000 in
set_option maxHeartbeats 8000000 in
theorem fits85 (x : Pl) (f b : List Int) (n : Nd) (s : Ns) (w : World) (hok : Ok x.at_) (hi : 0 ≤ x.at_.birth ∧ x.at_.birth < 4611686018427387904) (hv : NV w n s) (hn : Shape n)
    (hf : El1 w x.fr f) (hb : El1 w x.be b) (bf : Byt f) (bb : Byt b) :
    Calls Tryz.prog 85 #[.agg (encL x), .agg (encN n s)] w fun e w' => e = .returned (.bool (fitB x f b n)) ∧ Below w.heap.size w w' := by
  obtain ⟨P, hP⟩ : ∃ P : Ending → World → Prop, P = fun e w' => e = .returned (.bool (fitB x f b n)) ∧ Below w.heap.size w w' := ⟨_, rfl⟩
  rw [← hP]
  have HP := Aside0.mk hP
  clear hP
  obtain ⟨cl, hcl⟩ : ∃ cs, cs = encL x := ⟨_, rfl⟩
  obtain ⟨cn, hcn⟩ : ∃ cs, cs = encN n s := ⟨_, rfl⟩
  obtain ⟨n1, hn1⟩ : ∃ k, k = n.keys.length := ⟨_, rfl⟩
  have hb1 : 1 ≤ n1 := by rw [hn1]; exact hn.some_
  have hb2 : n1 ≤ 1000 := by rw [hn1]; exact hn.most
  have hb3 : n.lvl ≤ 12 := hn.lvl
  obtain ⟨lv, hlv⟩ : ∃ k, k = n.lvl := ⟨_, rfl⟩
  obtain ⟨A1, c1, A2, c2, A3, c3⟩ := s
  obtain ⟨W9, hW9⟩ : ∃ W, W = (w.alloc (.cells cl 167)).alloc (.cells cn 39) := ⟨_, rfl⟩
  obtain ⟨g2, hg2⟩ : ∃ g, g = w.heap.size := ⟨_, rfl⟩
  have HB9 := Aside0.mk (show Below w.heap.size w W9 by rw [hW9]; exact below_alloc (below_alloc (Below.refl _ _) _) _)
  have hG2 : W9.heap[g2]? = some (.cells cl 167 (0, 0)) := by rw [hW9, hg2]; exact blk_alloc (blk_new w _) _
  have hG3 : W9.heap[g2 + 1]? = some (.cells cn 39 (0, 0)) := by rw [hW9, hg2]; have := blk_new (w.alloc (.cells cl 167)) (.cells cn 39); simpa using this
  have h29 : g2 < W9.heap.size := blk_lt hG2
  have h39 : g2 + 1 < W9.heap.size := blk_lt hG3
  have K0 := Aside0.mk (show W9.cell? ⟨g2, 1, none⟩ = some (.int .i64 x.at_.birth) by rw [cell_of_row _ _ 1 _ 167 (0, 0) hG2, hcl, encL_lo hok (by decide)]; exact (pc _ hok.len).c1)
  have K1 := Aside0.mk (show W9.cell? ⟨g2, 36, none⟩ = some (.int .i64 x.lv) by rw [cell_of_row _ _ 36 _ 167 (0, 0) hG2, hcl, encL_hi hok 0]; rfl)
  have K2 := Aside0.mk (show W9.cell? ⟨g2, 37, none⟩ = some (.int .i64 x.bi) by rw [cell_of_row _ _ 37 _ 167 (0, 0) hG2, hcl, encL_hi hok 1]; rfl)
  have K3 := Aside0.mk (show W9.cell? ⟨g2, 38, none⟩ = some (encT x.fr) by rw [cell_of_row _ _ 38 _ 167 (0, 0) hG2, hcl, encL_hi hok 2]; rfl)
  have K4 := Aside0.mk (show W9.cell? ⟨g2, 39, none⟩ = some (encT x.be) by rw [cell_of_row _ _ 39 _ 167 (0, 0) hG2, hcl, encL_hi hok 3]; rfl)
  have K5 := Aside0.mk (show W9.cell? ⟨g2, 40, none⟩ = some (.bool x.en) by rw [cell_of_row _ _ 40 _ 167 (0, 0) hG2, hcl, encL_hi hok 4]; rfl)
  have N0 := Aside0.mk (show W9.cell? ⟨g2 + 1, 0, none⟩ = some (.int .i64 (lv : Int)) by rw [cell_of_row _ _ 0 _ 39 (0, 0) hG3, hcn, hlv]; rfl)
  have hV9 := hv.below HB9.out
  have hck : Kd.C kB W9 A1 n1 n.keys := by rw [hn1]; exact hV9.keys
  obtain ⟨bk, ok, rfl, hbk, hkk⟩ := CB_at hck hb1
  obtain ⟨Af, cf, kf, _, Cf⟩ := hkk 0 hb1
  obtain ⟨Al, cL, kl, lel, Cl⟩ := hkk (n1 - 1) (by omega)
  have N1 := Aside0.mk (show W9.cell? ⟨g2 + 1, 1, none⟩ = some (.slice (some ⟨bk, ok, none⟩) n1 c1) by rw [cell_of_row _ _ 1 _ 39 (0, 0) hG3, hcn, hn1]; rfl)
  have bk0 : Byt (n.keys.getD 0 []) := (hn.key _ (by rw [List.getD, List.getElem?_eq_getElem (by omega)]; exact List.getElem_mem _)).2
  have bkl : Byt (n.keys.getD (n1 - 1) []) := (hn.key _ (by rw [List.getD, List.getElem?_eq_getElem (by omega)]; exact List.getElem_mem _)).2
  obtain ⟨k0, hk0⟩ : ∃ k, k = n.keys.getD 0 [] := ⟨_, rfl⟩
  obtain ⟨kL, hkL⟩ : ∃ k, k = n.keys.getD (n1 - 1) [] := ⟨_, rfl⟩
  rw [← hk0] at kf Cf bk0
  rw [← hkL] at kl Cl bkl lel
  obtain ⟨m0, hm0⟩ : ∃ m, m = k0.length := ⟨_, rfl⟩
  obtain ⟨mL, hmL⟩ : ∃ m, m = kL.length := ⟨_, rfl⟩
  rw [← hm0] at kf Cf
  rw [← hmL] at kl Cl lel
  rw [Nat.add_zero] at kf
  obtain ⟨S1, hS1⟩ : ∃ S, S = strOfNums k0 := ⟨_, rfl⟩
  obtain ⟨S2, hS2⟩ : ∃ S, S = strOfNums f := ⟨_, rfl⟩
  obtain ⟨S3, hS3⟩ : ∃ S, S = strOfNums kL := ⟨_, rfl⟩
  obtain ⟨S4, hS4⟩ : ∃ S, S = strOfNums b := ⟨_, rfl⟩
  have V1 := Aside0.mk (show ∀ W', Below W9.heap.size W9 W' → (convert 36 9 (.slice Af m0 cf)).run Tryz.prog W' = .ok (.string S1) W' by
    intro W' hb; rw [hS1]; exact Kd.C_string (P := Tryz.prog) (c := cf) Tryz.underlying36 Tryz.underlying5 Tryz.underlying9 (Kd.C_below Cf hb))
  have V3 := Aside0.mk (show ∀ W', Below W9.heap.size W9 W' → (convert 36 9 (.slice Al mL cL)).run Tryz.prog W' = .ok (.string S3) W' by
    intro W' hb; rw [hS3]; exact Kd.C_string (P := Tryz.prog) (c := cL) Tryz.underlying36 Tryz.underlying5 Tryz.underlying9 (Kd.C_below Cl hb))
  have V2 := Aside0.mk (show ∀ W', Below W9.heap.size W9 W' → (convert 36 9 (encT x.fr)).run Tryz.prog W' = .ok (.string S2) W' by
    intro W' hb
    rw [hS2, encT, hf.len]
    exact Kd.C_string (P := Tryz.prog) (c := x.fr.c) Tryz.underlying36 Tryz.underlying5 Tryz.underlying9 (Kd.C_below (Kd.C_below hf.bytes HB9.out) hb))
  have V4 := Aside0.mk (show ∀ W', Below W9.heap.size W9 W' → (convert 36 9 (encT x.be)).run Tryz.prog W' = .ok (.string S4) W' by
    intro W' hb'
    rw [hS4, encT, hb.len]
    exact Kd.C_string (P := Tryz.prog) (c := x.be.c) Tryz.underlying36 Tryz.underlying5 Tryz.underlying9 (Kd.C_below (Kd.C_below hb.bytes HB9.out) hb'))
  have E1 := Aside0.mk (show (S1.toList == S2.toList) = decide (k0 = f) by rw [hS1, hS2]; exact str_eq bk0 bf)
  have E2 := Aside0.mk (show Op.bytesLess S3.toList S4.toList = ltL kL b by rw [hS3, hS4]; exact str_lt bkl bb)
  have HFB := Aside0.mk (show fitB x f b n = (decide (x.lv < 0) || (decide ((lv : Int) = x.lv) && (decide (x.at_.birth ≤ x.bi) && (decide (k0 = f) && (!x.en || ltL kL b))))) by rw [fitB, hk0, hkL, hlv, hn1])
  have HKF := Aside0.mk (And.intro kf kl)
  obtain ⟨xl, hxl⟩ : ∃ k, k = x.lv := ⟨_, rfl⟩
  obtain ⟨xb, hxb⟩ : ∃ k, k = x.bi := ⟨_, rfl⟩
  obtain ⟨xa, hxa⟩ : ∃ k, k = x.at_.birth := ⟨_, rfl⟩
  obtain ⟨xe, hxe⟩ : ∃ k, k = x.en := ⟨_, rfl⟩
  obtain ⟨tf, htf⟩ : ∃ k, k = encT x.fr := ⟨_, rfl⟩
  obtain ⟨tb, htb⟩ : ∃ k, k = encT x.be := ⟨_, rfl⟩
  rw [← hxl] at K1 HFB
  rw [← hxb] at K2 HFB
  rw [← hxa] at K0 HFB
  rw [← hxe] at K5 HFB
  rw [← htf] at K3 V2
  rw [← htb] at K4 V4
  have hG2' := Aside0.mk hg2
  have hn1w : IntKind.i64.wrap ((n1 : Int) - 1) = ((n1 - 1 : Nat) : Int) := by rw [i64_small (by omega) (by omega)]; omega
  have hKl : W9.cell? ⟨bk, ok + (n1 - 1), none⟩ = some (.slice Al mL cL) := kl
  rw [← hcl, ← hcn]
  clear hv hn hf hb bf bb hcl hcn hn1 hlv hV9 hck hkk kf kl Cf Cl bk0 bkl hk0 hkL hm0 hmL hS1 hS2 hS3 hS4 hxl hxb hxa hxe htf htb hG2 hG3 hb3 hi hok lel
  rcases Int.lt_or_le xl 0 with h0 | h0
  · have d0 : decide (xl < 0) = true := decide_eq_true h0
    rw [d0, Bool.true_or] at HFB
    go_enter Tryz.func85, Tryz.ntmps85
    go_upto_region 1 with (fail)
    rw [← hg2, ← hW9]
    clear hg2 hW9 h0 hKl
    have k1 := K1.out
    go_wp2
    rw [HP.out, HFB.out]
    exact ⟨rfl, HB9.out⟩
  have d0 : decide (xl < 0) = false := decide_eq_false (by omega)
  rw [d0, Bool.false_or] at HFB
  by_cases q1 : (lv : Int) = xl
  case neg =>
    have d1 : ((lv : Int) == xl) = false := by rw [beq_eq_false_iff_ne]; exact q1
    rw [decide_eq_false q1, Bool.false_and] at HFB
    clear q1
    go_enter Tryz.func85, Tryz.ntmps85
    go_upto_region 1 with (fail)
    rw [← hg2, ← hW9]
    clear hg2 hW9 h0
    have k1 := K1.out
    have n1' := N1.out
    go_upto_region 4 with (fail)
    have KF0 := Aside0.mk HKF.out.1
    clear k1 n1' hKl
    refine wp_region_held_drew (S := fun w' => Below W9.heap.size W9 w') (by kernel_rfl) (below_drew (Below.refl _ _)) (fun hW => ?_)
    have WDB := Aside0.mk (show Below W9.heap.size W9 W9.drew from below_drew (Below.refl _ _))
    generalize hWd : W9.drew = Wd at *
    clear hWd
    refine wpAnyH_take (i := 0) (oi := ⟨some 17, _, _, _, _, _⟩) (v := .pointer (some ⟨g2 + 1, 0, none⟩)) rfl (by kernel_rfl) (by kernel_rfl) (by kernel_rfl) (fun _ _ _ h => h) (.inl ⟨by rfl, fun W1 h1 => by go_simp⟩) hW ?_
    try simp only [Act.put, List.setIfInBounds_toArray, List.set_cons_zero, List.set_cons_succ]
    refine wpAnyH_take (i := 1) (oi := ⟨some 18, _, _, _, _, _⟩) (v := .int .i64 (lv : Int)) rfl (by kernel_rfl) (by kernel_rfl) (by kernel_rfl) (fun _ _ _ h => h) (.inl ⟨by rfl, fun W1 h1 => by have h2 := (Below.cell (p := ⟨g2 + 1, 0, none⟩) h1 h39).trans N0.out; clear h1; go_simp⟩) hW ?_
    try simp only [Act.put, List.setIfInBounds_toArray, List.set_cons_zero, List.set_cons_succ]
    refine wpAnyH_take (i := 2) (oi := ⟨some 19, _, _, _, _, _⟩) (v := .pointer (some ⟨g2, 36, none⟩)) rfl (by kernel_rfl) (by kernel_rfl) (by kernel_rfl) (fun _ _ _ h => h) (.inl ⟨by rfl, fun W1 h1 => by go_simp⟩) hW ?_
    try simp only [Act.put, List.setIfInBounds_toArray, List.set_cons_zero, List.set_cons_succ]
    refine wpAnyH_take (i := 3) (oi := ⟨some 20, _, _, _, _, _⟩) (v := .int .i64 xl) rfl (by kernel_rfl) (by kernel_rfl) (by kernel_rfl) (fun _ _ _ h => h) (.inl ⟨by rfl, fun W1 h1 => by have h2 := (Below.cell (p := ⟨g2, 36, none⟩) h1 h29).trans K1.out; clear h1; go_simp⟩) hW ?_
    try simp only [Act.put, List.setIfInBounds_toArray, List.set_cons_zero, List.set_cons_succ]
    refine wpAnyH_take (i := 4) (oi := ⟨some 21, _, _, _, _, _⟩) (v := .bool false) rfl (by kernel_rfl) (by kernel_rfl) (by kernel_rfl) (fun _ _ _ h => h) (.inl ⟨by rfl, fun W1 h1 => by go_simp⟩) hW ?_
    try simp only [Act.put, List.setIfInBounds_toArray, List.set_cons_zero, List.set_cons_succ]
    refine wpAnyH_take (i := 5) (oi := ⟨some 22, _, _, _, _, _⟩) (v := .bool false) rfl (by kernel_rfl) (by kernel_rfl) (by kernel_rfl) (fun _ _ _ h => h) (.inl ⟨by rfl, fun W1 h1 => by go_simp⟩) hW ?_
    try simp only [Act.put, List.setIfInBounds_toArray, List.set_cons_zero, List.set_cons_succ]
    refine wpAnyH_take (i := 6) (oi := ⟨some 23, _, _, _, _, _⟩) (v := undef) rfl (by kernel_rfl) (by kernel_rfl) (by kernel_rfl) (fun _ _ _ h => h) (.inr ⟨by rfl, rfl⟩) hW ?_
    try simp only [Act.put, List.setIfInBounds_toArray, List.set_cons_zero, List.set_cons_succ]
    refine wpAnyH_take (i := 7) (oi := ⟨some 24, _, _, _, _, _⟩) (v := undef) rfl (by kernel_rfl) (by kernel_rfl) (by kernel_rfl) (fun _ _ _ h => h) (.inr ⟨by rfl, rfl⟩) hW ?_
    try simp only [Act.put, List.setIfInBounds_toArray, List.set_cons_zero, List.set_cons_succ]
    refine wpAnyH_take (i := 8) (oi := ⟨some 25, _, _, _, _, _⟩) (v := undef) rfl (by kernel_rfl) (by kernel_rfl) (by kernel_rfl) (fun _ _ _ h => h) (.inr ⟨by rfl, rfl⟩) hW ?_
    try simp only [Act.put, List.setIfInBounds_toArray, List.set_cons_zero, List.set_cons_succ]
    refine wpAnyH_take (i := 9) (oi := ⟨some 26, _, _, _, _, _⟩) (v := undef) rfl (by kernel_rfl) (by kernel_rfl) (by kernel_rfl) (fun _ _ _ h => h) (.inr ⟨by rfl, rfl⟩) hW ?_
    try simp only [Act.put, List.setIfInBounds_toArray, List.set_cons_zero, List.set_cons_succ]
    refine wpAnyH_take (i := 10) (oi := ⟨some 27, _, _, _, _, _⟩) (v := undef) rfl (by kernel_rfl) (by kernel_rfl) (by kernel_rfl) (fun _ _ _ h => h) (.inr ⟨by rfl, rfl⟩) hW ?_
    try simp only [Act.put, List.setIfInBounds_toArray, List.set_cons_zero, List.set_cons_succ]
    refine wpAnyH_take (i := 11) (oi := ⟨some 28, _, _, _, _, _⟩) (v := undef) rfl (by kernel_rfl) (by kernel_rfl) (by kernel_rfl) (fun _ _ _ h => h) (.inr ⟨by rfl, rfl⟩) hW ?_
    try simp only [Act.put, List.setIfInBounds_toArray, List.set_cons_zero, List.set_cons_succ]
    refine wpAnyH_take (i := 12) (oi := ⟨some 29, _, _, _, _, _⟩) (v := .bool false) rfl (by kernel_rfl) (by kernel_rfl) (by kernel_rfl) (fun _ _ _ h => h) (.inl ⟨by rfl, fun W1 h1 => by go_simp⟩) hW ?_
    try simp only [Act.put, List.setIfInBounds_toArray, List.set_cons_zero, List.set_cons_succ]
    refine wpAnyH_take (i := 13) (oi := ⟨some 30, _, _, _, _, _⟩) (v := .bool false) rfl (by kernel_rfl) (by kernel_rfl) (by kernel_rfl) (fun _ _ _ h => h) (.inl ⟨by rfl, fun W1 h1 => by go_simp⟩) hW ?_
    try simp only [Act.put, List.setIfInBounds_toArray, List.set_cons_zero, List.set_cons_succ]
    refine wpAnyH_take (i := 14) (oi := ⟨some 31, _, _, _, _, _⟩) (v := undef) rfl (by kernel_rfl) (by kernel_rfl) (by kernel_rfl) (fun _ _ _ h => h) (.inr ⟨by rfl, rfl⟩) hW ?_
    try simp only [Act.put, List.setIfInBounds_toArray, List.set_cons_zero, List.set_cons_succ]
    refine wpAnyH_take (i := 15) (oi := ⟨some 32, _, _, _, _, _⟩) (v := undef) rfl (by kernel_rfl) (by kernel_rfl) (by kernel_rfl) (fun _ _ _ h => h) (.inr ⟨by rfl, rfl⟩) hW ?_
    try simp only [Act.put, List.setIfInBounds_toArray, List.set_cons_zero, List.set_cons_succ]
    refine wpAnyH_take (i := 16) (oi := ⟨some 33, _, _, _, _, _⟩) (v := undef) rfl (by kernel_rfl) (by kernel_rfl) (by kernel_rfl) (fun _ _ _ h => h) (.inr ⟨by rfl, rfl⟩) hW ?_
    try simp only [Act.put, List.setIfInBounds_toArray, List.set_cons_zero, List.set_cons_succ]
    refine wpAnyH_take (i := 17) (oi := ⟨some 34, _, _, _, _, _⟩) (v := undef) rfl (by kernel_rfl) (by kernel_rfl) (by kernel_rfl) (fun _ _ _ h => h) (.inr ⟨by rfl, rfl⟩) hW ?_
    try simp only [Act.put, List.setIfInBounds_toArray, List.set_cons_zero, List.set_cons_succ]
    refine wpAnyH_take (i := 18) (oi := ⟨some 35, _, _, _, _, _⟩) (v := undef) rfl (by kernel_rfl) (by kernel_rfl) (by kernel_rfl) (fun _ _ _ h => h) (.inr ⟨by rfl, rfl⟩) hW ?_
    try simp only [Act.put, List.setIfInBounds_toArray, List.set_cons_zero, List.set_cons_succ]
    refine wpAnyH_take (i := 19) (oi := ⟨some 36, _, _, _, _, _⟩) (v := undef) rfl (by kernel_rfl) (by kernel_rfl) (by kernel_rfl) (fun _ _ _ h => h) (.inr ⟨by rfl, rfl⟩) hW ?_
    try simp only [Act.put, List.setIfInBounds_toArray, List.set_cons_zero, List.set_cons_succ]
    refine wpAnyH_take (i := 20) (oi := ⟨some 37, _, _, _, _, _⟩) (v := undef) rfl (by kernel_rfl) (by kernel_rfl) (by kernel_rfl) (fun _ _ _ h => h) (.inr ⟨by rfl, rfl⟩) hW ?_
    try simp only [Act.put, List.setIfInBounds_toArray, List.set_cons_zero, List.set_cons_succ]
    refine wpAnyH_take (i := 21) (oi := ⟨some 38, _, _, _, _, _⟩) (v := undef) rfl (by kernel_rfl) (by kernel_rfl) (by kernel_rfl) (fun _ _ _ h => h) (.inr ⟨by rfl, rfl⟩) hW ?_
    try simp only [Act.put, List.setIfInBounds_toArray, List.set_cons_zero, List.set_cons_succ]
    refine wpAnyH_take (i := 22) (oi := ⟨some 39, _, _, _, _, _⟩) (v := undef) rfl (by kernel_rfl) (by kernel_rfl) (by kernel_rfl) (fun _ _ _ h => h) (.inr ⟨by rfl, rfl⟩) hW ?_
    try simp only [Act.put, List.setIfInBounds_toArray, List.set_cons_zero, List.set_cons_succ]
    refine wpAnyH_take (i := 23) (oi := ⟨some 40, _, _, _, _, _⟩) (v := .bool false) rfl (by kernel_rfl) (by kernel_rfl) (by kernel_rfl) (fun _ _ _ h => h) (.inl ⟨by rfl, fun W1 h1 => by go_simp⟩) hW ?_
    try simp only [Act.put, List.setIfInBounds_toArray, List.set_cons_zero, List.set_cons_succ]
    refine wpAnyH_take (i := 24) (oi := ⟨some 41, _, _, _, _, _⟩) (v := .bool false) rfl (by kernel_rfl) (by kernel_rfl) (by kernel_rfl) (fun _ _ _ h => h) (.inl ⟨by rfl, fun W1 h1 => by go_simp⟩) hW ?_
    try simp only [Act.put, List.setIfInBounds_toArray, List.set_cons_zero, List.set_cons_succ]
    refine wpAnyH_take (i := 25) (oi := ⟨some 42, _, _, _, _, _⟩) (v := undef) rfl (by kernel_rfl) (by kernel_rfl) (by kernel_rfl) (fun _ _ _ h => h) (.inr ⟨by rfl, rfl⟩) hW ?_
    try simp only [Act.put, List.setIfInBounds_toArray, List.set_cons_zero, List.set_cons_succ]
    refine wpAnyH_take (i := 26) (oi := ⟨some 43, _, _, _, _, _⟩) (v := undef) rfl (by kernel_rfl) (by kernel_rfl) (by kernel_rfl) (fun _ _ _ h => h) (.inr ⟨by rfl, rfl⟩) hW ?_
    try simp only [Act.put, List.setIfInBounds_toArray, List.set_cons_zero, List.set_cons_succ]
    refine wpAnyH_take (i := 27) (oi := ⟨some 44, _, _, _, _, _⟩) (v := undef) rfl (by kernel_rfl) (by kernel_rfl) (by kernel_rfl) (fun _ _ _ h => h) (.inr ⟨by rfl, rfl⟩) hW ?_
    try simp only [Act.put, List.setIfInBounds_toArray, List.set_cons_zero, List.set_cons_succ]
    refine wpAnyH_take (i := 28) (oi := ⟨some 45, _, _, _, _, _⟩) (v := undef) rfl (by kernel_rfl) (by kernel_rfl) (by kernel_rfl) (fun _ _ _ h => h) (.inr ⟨by rfl, rfl⟩) hW ?_
    try simp only [Act.put, List.setIfInBounds_toArray, List.set_cons_zero, List.set_cons_succ]
    refine wpAnyH_take (i := 29) (oi := ⟨some 46, _, _, _, _, _⟩) (v := undef) rfl (by kernel_rfl) (by kernel_rfl) (by kernel_rfl) (fun _ _ _ h => h) (.inr ⟨by rfl, rfl⟩) hW ?_
    try simp only [Act.put, List.setIfInBounds_toArray, List.set_cons_zero, List.set_cons_succ]
    refine wpAnyH_take (i := 30) (oi := ⟨some 47, _, _, _, _, _⟩) (v := undef) rfl (by kernel_rfl) (by kernel_rfl) (by kernel_rfl) (fun _ _ _ h => h) (.inr ⟨by rfl, rfl⟩) hW ?_
    try simp only [Act.put, List.setIfInBounds_toArray, List.set_cons_zero, List.set_cons_succ]
    refine wpAnyH_take (i := 31) (oi := ⟨some 48, _, _, _, _, _⟩) (v := undef) rfl (by kernel_rfl) (by kernel_rfl) (by kernel_rfl) (fun _ _ _ h => h) (.inr ⟨by rfl, rfl⟩) hW ?_
    try simp only [Act.put, List.setIfInBounds_toArray, List.set_cons_zero, List.set_cons_succ]
    refine wpAnyH_take (i := 32) (oi := ⟨some 49, _, _, _, _, _⟩) (v := undef) rfl (by kernel_rfl) (by kernel_rfl) (by kernel_rfl) (fun _ _ _ h => h) (.inr ⟨by rfl, rfl⟩) hW ?_
    try simp only [Act.put, List.setIfInBounds_toArray, List.set_cons_zero, List.set_cons_succ]
    refine wpAnyH_take (i := 33) (oi := ⟨some 50, _, _, _, _, _⟩) (v := undef) rfl (by kernel_rfl) (by kernel_rfl) (by kernel_rfl) (fun _ _ _ h => h) (.inr ⟨by rfl, rfl⟩) hW ?_
    try simp only [Act.put, List.setIfInBounds_toArray, List.set_cons_zero, List.set_cons_succ]
    refine wpAnyH_take (i := 34) (oi := ⟨some 51, _, _, _, _, _⟩) (v := undef) rfl (by kernel_rfl) (by kernel_rfl) (by kernel_rfl) (fun _ _ _ h => h) (.inr ⟨by rfl, rfl⟩) hW ?_
    try simp only [Act.put, List.setIfInBounds_toArray, List.set_cons_zero, List.set_cons_succ]
    refine wpAnyH_take (i := 35) (oi := ⟨some 52, _, _, _, _, _⟩) (v := undef) rfl (by kernel_rfl) (by kernel_rfl) (by kernel_rfl) (fun _ _ _ h => h) (.inr ⟨by rfl, rfl⟩) hW ?_
    try simp only [Act.put, List.setIfInBounds_toArray, List.set_cons_zero, List.set_cons_succ]
    refine wpAnyH_take (i := 36) (oi := ⟨some 53, _, _, _, _, _⟩) (v := .bool false) rfl (by kernel_rfl) (by kernel_rfl) (by kernel_rfl) (fun _ _ _ h => h) (.inl ⟨by rfl, fun W1 h1 => by go_simp⟩) hW ?_
    try simp only [Act.put, List.setIfInBounds_toArray, List.set_cons_zero, List.set_cons_succ]
    refine wpAnyH_take (i := 37) (oi := ⟨some 4, _, _, _, _, _⟩) (v := .bool false) rfl (by kernel_rfl) (by kernel_rfl) (by kernel_rfl) (fun _ _ _ h => h) (.inl ⟨by rfl, fun W1 h1 => by go_simp⟩) hW ?_
    try simp only [Act.put, List.setIfInBounds_toArray, List.set_cons_zero, List.set_cons_succ]
    refine wpAnyH_done (by kernel_rfl) ?_ _
    have HW := Aside0.mk hW
    clear hW WDB
    go_wp2
    rw [HP.out]
    exact ⟨by rw [HFB.out]; rfl, HB9.out.trans (HW.out.mono HB9.out.size)⟩
  have d1 : ((lv : Int) == xl) = true := by rw [beq_iff_eq]; exact q1
  rw [decide_eq_true q1, Bool.true_and] at HFB
  clear q1
  by_cases q2 : xa ≤ xb
  case neg =>
    have d2 : decide (xa ≤ xb) = false := decide_eq_false q2
    rw [d2, Bool.false_and] at HFB
    clear q2
    go_enter Tryz.func85, Tryz.ntmps85
    go_upto_region 1 with (fail)
    rw [← hg2, ← hW9]
    clear hg2 hW9 h0
    have k1 := K1.out
    have n1' := N1.out
    go_upto_region 4 with (fail)
    have KF0 := Aside0.mk HKF.out.1
    clear k1 n1' hKl
    refine wp_region_held_drew (S := fun w' => Below W9.heap.size W9 w') (by kernel_rfl) (below_drew (Below.refl _ _)) (fun hW => ?_)
    have WDB := Aside0.mk (show Below W9.heap.size W9 W9.drew from below_drew (Below.refl _ _))
    generalize hWd : W9.drew = Wd at *
    clear hWd
    refine wpAnyH_take (i := 0) (oi := ⟨some 17, _, _, _, _, _⟩) (v := .pointer (some ⟨g2 + 1, 0, none⟩)) rfl (by kernel_rfl) (by kernel_rfl) (by kernel_rfl) (fun _ _ _ h => h) (.inl ⟨by rfl, fun W1 h1 => by go_simp⟩) hW ?_
    try simp only [Act.put, List.setIfInBounds_toArray, List.set_cons_zero, List.set_cons_succ]
    refine wpAnyH_take (i := 1) (oi := ⟨some 18, _, _, _, _, _⟩) (v := .int .i64 (lv : Int)) rfl (by kernel_rfl) (by kernel_rfl) (by kernel_rfl) (fun _ _ _ h => h) (.inl ⟨by rfl, fun W1 h1 => by have h2 := (Below.cell (p := ⟨g2 + 1, 0, none⟩) h1 h39).trans N0.out; clear h1; go_simp⟩) hW ?_
    try simp only [Act.put, List.setIfInBounds_toArray, List.set_cons_zero, List.set_cons_succ]
    refine wpAnyH_take (i := 2) (oi := ⟨some 19, _, _, _, _, _⟩) (v := .pointer (some ⟨g2, 36, none⟩)) rfl (by kernel_rfl) (by kernel_rfl) (by kernel_rfl) (fun _ _ _ h => h) (.inl ⟨by rfl, fun W1 h1 => by go_simp⟩) hW ?_
    try simp only [Act.put, List.setIfInBounds_toArray, List.set_cons_zero, List.set_cons_succ]
    refine wpAnyH_take (i := 3) (oi := ⟨some 20, _, _, _, _, _⟩) (v := .int .i64 xl) rfl (by kernel_rfl) (by kernel_rfl) (by kernel_rfl) (fun _ _ _ h => h) (.inl ⟨by rfl, fun W1 h1 => by have h2 := (Below.cell (p := ⟨g2, 36, none⟩) h1 h29).trans K1.out; clear h1; go_simp⟩) hW ?_
    try simp only [Act.put, List.setIfInBounds_toArray, List.set_cons_zero, List.set_cons_succ]
    refine wpAnyH_take (i := 4) (oi := ⟨some 21, _, _, _, _, _⟩) (v := .bool true) rfl (by kernel_rfl) (by kernel_rfl) (by kernel_rfl) (fun _ _ _ h => h) (.inl ⟨by rfl, fun W1 h1 => by go_simp⟩) hW ?_
    try simp only [Act.put, List.setIfInBounds_toArray, List.set_cons_zero, List.set_cons_succ]
    refine wpAnyH_take (i := 5) (oi := ⟨some 22, _, _, _, _, _⟩) (v := .bool true) rfl (by kernel_rfl) (by kernel_rfl) (by kernel_rfl) (fun _ _ _ h => h) (.inl ⟨by rfl, fun W1 h1 => by go_simp⟩) hW ?_
    try simp only [Act.put, List.setIfInBounds_toArray, List.set_cons_zero, List.set_cons_succ]
    refine wpAnyH_take (i := 6) (oi := ⟨some 23, _, _, _, _, _⟩) (v := .pointer (some ⟨g2, 0, none⟩)) rfl (by kernel_rfl) (by kernel_rfl) (by kernel_rfl) (fun _ _ _ h => h) (.inl ⟨by rfl, fun W1 h1 => by go_simp⟩) hW ?_
    try simp only [Act.put, List.setIfInBounds_toArray, List.set_cons_zero, List.set_cons_succ]
    refine wpAnyH_take (i := 7) (oi := ⟨some 24, _, _, _, _, _⟩) (v := .pointer (some ⟨g2, 1, none⟩)) rfl (by kernel_rfl) (by kernel_rfl) (by kernel_rfl) (fun _ _ _ h => h) (.inl ⟨by rfl, fun W1 h1 => by go_simp⟩) hW ?_
    try simp only [Act.put, List.setIfInBounds_toArray, List.set_cons_zero, List.set_cons_succ]
    refine wpAnyH_take (i := 8) (oi := ⟨some 25, _, _, _, _, _⟩) (v := .int .i64 xa) rfl (by kernel_rfl) (by kernel_rfl) (by kernel_rfl) (fun _ _ _ h => h) (.inl ⟨by rfl, fun W1 h1 => by have h2 := (Below.cell (p := ⟨g2, 1, none⟩) h1 h29).trans K0.out; clear h1; go_simp⟩) hW ?_
    try simp only [Act.put, List.setIfInBounds_toArray, List.set_cons_zero, List.set_cons_succ]
    refine wpAnyH_take (i := 9) (oi := ⟨some 26, _, _, _, _, _⟩) (v := .pointer (some ⟨g2, 37, none⟩)) rfl (by kernel_rfl) (by kernel_rfl) (by kernel_rfl) (fun _ _ _ h => h) (.inl ⟨by rfl, fun W1 h1 => by go_simp⟩) hW ?_
    try simp only [Act.put, List.setIfInBounds_toArray, List.set_cons_zero, List.set_cons_succ]
    refine wpAnyH_take (i := 10) (oi := ⟨some 27, _, _, _, _, _⟩) (v := .int .i64 xb) rfl (by kernel_rfl) (by kernel_rfl) (by kernel_rfl) (fun _ _ _ h => h) (.inl ⟨by rfl, fun W1 h1 => by have h2 := (Below.cell (p := ⟨g2, 37, none⟩) h1 h29).trans K2.out; clear h1; go_simp⟩) hW ?_
    try simp only [Act.put, List.setIfInBounds_toArray, List.set_cons_zero, List.set_cons_succ]
    refine wpAnyH_take (i := 11) (oi := ⟨some 28, _, _, _, _, _⟩) (v := .bool false) rfl (by kernel_rfl) (by kernel_rfl) (by kernel_rfl) (fun _ _ _ h => h) (.inl ⟨by rfl, fun W1 h1 => by go_simp⟩) hW ?_
    try simp only [Act.put, List.setIfInBounds_toArray, List.set_cons_zero, List.set_cons_succ]
    refine wpAnyH_take (i := 12) (oi := ⟨some 29, _, _, _, _, _⟩) (v := .bool false) rfl (by kernel_rfl) (by kernel_rfl) (by kernel_rfl) (fun _ _ _ h => h) (.inl ⟨by rfl, fun W1 h1 => by go_simp⟩) hW ?_
    try simp only [Act.put, List.setIfInBounds_toArray, List.set_cons_zero, List.set_cons_succ]
    refine wpAnyH_take (i := 13) (oi := ⟨some 30, _, _, _, _, _⟩) (v := .bool false) rfl (by kernel_rfl) (by kernel_rfl) (by kernel_rfl) (fun _ _ _ h => h) (.inl ⟨by rfl, fun W1 h1 => by go_simp⟩) hW ?_
    try simp only [Act.put, List.setIfInBounds_toArray, List.set_cons_zero, List.set_cons_succ]
    refine wpAnyH_take (i := 14) (oi := ⟨some 31, _, _, _, _, _⟩) (v := undef) rfl (by kernel_rfl) (by kernel_rfl) (by kernel_rfl) (fun _ _ _ h => h) (.inr ⟨by rfl, rfl⟩) hW ?_
    try simp only [Act.put, List.setIfInBounds_toArray, List.set_cons_zero, List.set_cons_succ]
    refine wpAnyH_take (i := 15) (oi := ⟨some 32, _, _, _, _, _⟩) (v := undef) rfl (by kernel_rfl) (by kernel_rfl) (by kernel_rfl) (fun _ _ _ h => h) (.inr ⟨by rfl, rfl⟩) hW ?_
    try simp only [Act.put, List.setIfInBounds_toArray, List.set_cons_zero, List.set_cons_succ]
    refine wpAnyH_take (i := 16) (oi := ⟨some 33, _, _, _, _, _⟩) (v := undef) rfl (by kernel_rfl) (by kernel_rfl) (by kernel_rfl) (fun _ _ _ h => h) (.inr ⟨by rfl, rfl⟩) hW ?_
    try simp only [Act.put, List.setIfInBounds_toArray, List.set_cons_zero, List.set_cons_succ]
    refine wpAnyH_take (i := 17) (oi := ⟨some 34, _, _, _, _, _⟩) (v := undef) rfl (by kernel_rfl) (by kernel_rfl) (by kernel_rfl) (fun _ _ _ h => h) (.inr ⟨by rfl, rfl⟩) hW ?_
    try simp only [Act.put, List.setIfInBounds_toArray, List.set_cons_zero, List.set_cons_succ]
    refine wpAnyH_take (i := 18) (oi := ⟨some 35, _, _, _, _, _⟩) (v := undef) rfl (by kernel_rfl) (by kernel_rfl) (by kernel_rfl) (fun _ _ _ h => h) (.inr ⟨by rfl, rfl⟩) hW ?_
    try simp only [Act.put, List.setIfInBounds_toArray, List.set_cons_zero, List.set_cons_succ]
    refine wpAnyH_take (i := 19) (oi := ⟨some 36, _, _, _, _, _⟩) (v := undef) rfl (by kernel_rfl) (by kernel_rfl) (by kernel_rfl) (fun _ _ _ h => h) (.inr ⟨by rfl, rfl⟩) hW ?_
    try simp only [Act.put, List.setIfInBounds_toArray, List.set_cons_zero, List.set_cons_succ]
    refine wpAnyH_take (i := 20) (oi := ⟨some 37, _, _, _, _, _⟩) (v := undef) rfl (by kernel_rfl) (by kernel_rfl) (by kernel_rfl) (fun _ _ _ h => h) (.inr ⟨by rfl, rfl⟩) hW ?_
    try simp only [Act.put, List.setIfInBounds_toArray, List.set_cons_zero, List.set_cons_succ]
    refine wpAnyH_take (i := 21) (oi := ⟨some 38, _, _, _, _, _⟩) (v := undef) rfl (by kernel_rfl) (by kernel_rfl) (by kernel_rfl) (fun _ _ _ h => h) (.inr ⟨by rfl, rfl⟩) hW ?_
    try simp only [Act.put, List.setIfInBounds_toArray, List.set_cons_zero, List.set_cons_succ]
    refine wpAnyH_take (i := 22) (oi := ⟨some 39, _, _, _, _, _⟩) (v := undef) rfl (by kernel_rfl) (by kernel_rfl) (by kernel_rfl) (fun _ _ _ h => h) (.inr ⟨by rfl, rfl⟩) hW ?_
    try simp only [Act.put, List.setIfInBounds_toArray, List.set_cons_zero, List.set_cons_succ]
    refine wpAnyH_take (i := 23) (oi := ⟨some 40, _, _, _, _, _⟩) (v := .bool false) rfl (by kernel_rfl) (by kernel_rfl) (by kernel_rfl) (fun _ _ _ h => h) (.inl ⟨by rfl, fun W1 h1 => by go_simp⟩) hW ?_
    try simp only [Act.put, List.setIfInBounds_toArray, List.set_cons_zero, List.set_cons_succ]
    refine wpAnyH_take (i := 24) (oi := ⟨some 41, _, _, _, _, _⟩) (v := .bool false) rfl (by kernel_rfl) (by kernel_rfl) (by kernel_rfl) (fun _ _ _ h => h) (.inl ⟨by rfl, fun W1 h1 => by go_simp⟩) hW ?_
    try simp only [Act.put, List.setIfInBounds_toArray, List.set_cons_zero, List.set_cons_succ]
    refine wpAnyH_take (i := 25) (oi := ⟨some 42, _, _, _, _, _⟩) (v := undef) rfl (by kernel_rfl) (by kernel_rfl) (by kernel_rfl) (fun _ _ _ h => h) (.inr ⟨by rfl, rfl⟩) hW ?_
    try simp only [Act.put, List.setIfInBounds_toArray, List.set_cons_zero, List.set_cons_succ]
    refine wpAnyH_take (i := 26) (oi := ⟨some 43, _, _, _, _, _⟩) (v := undef) rfl (by kernel_rfl) (by kernel_rfl) (by kernel_rfl) (fun _ _ _ h => h) (.inr ⟨by rfl, rfl⟩) hW ?_
    try simp only [Act.put, List.setIfInBounds_toArray, List.set_cons_zero, List.set_cons_succ]
    refine wpAnyH_take (i := 27) (oi := ⟨some 44, _, _, _, _, _⟩) (v := undef) rfl (by kernel_rfl) (by kernel_rfl) (by kernel_rfl) (fun _ _ _ h => h) (.inr ⟨by rfl, rfl⟩) hW ?_
    try simp only [Act.put, List.setIfInBounds_toArray, List.set_cons_zero, List.set_cons_succ]
    refine wpAnyH_take (i := 28) (oi := ⟨some 45, _, _, _, _, _⟩) (v := undef) rfl (by kernel_rfl) (by kernel_rfl) (by kernel_rfl) (fun _ _ _ h => h) (.inr ⟨by rfl, rfl⟩) hW ?_
    try simp only [Act.put, List.setIfInBounds_toArray, List.set_cons_zero, List.set_cons_succ]
    refine wpAnyH_take (i := 29) (oi := ⟨some 46, _, _, _, _, _⟩) (v := undef) rfl (by kernel_rfl) (by kernel_rfl) (by kernel_rfl) (fun _ _ _ h => h) (.inr ⟨by rfl, rfl⟩) hW ?_
    try simp only [Act.put, List.setIfInBounds_toArray, List.set_cons_zero, List.set_cons_succ]
    refine wpAnyH_take (i := 30) (oi := ⟨some 47, _, _, _, _, _⟩) (v := undef) rfl (by kernel_rfl) (by kernel_rfl) (by kernel_rfl) (fun _ _ _ h => h) (.inr ⟨by rfl, rfl⟩) hW ?_
    try simp only [Act.put, List.setIfInBounds_toArray, List.set_cons_zero, List.set_cons_succ]
    refine wpAnyH_take (i := 31) (oi := ⟨some 48, _, _, _, _, _⟩) (v := undef) rfl (by kernel_rfl) (by kernel_rfl) (by kernel_rfl) (fun _ _ _ h => h) (.inr ⟨by rfl, rfl⟩) hW ?_
    try simp only [Act.put, List.setIfInBounds_toArray, List.set_cons_zero, List.set_cons_succ]
    refine wpAnyH_take (i := 32) (oi := ⟨some 49, _, _, _, _, _⟩) (v := undef) rfl (by kernel_rfl) (by kernel_rfl) (by kernel_rfl) (fun _ _ _ h => h) (.inr ⟨by rfl, rfl⟩) hW ?_
    try simp only [Act.put, List.setIfInBounds_toArray, List.set_cons_zero, List.set_cons_succ]
    refine wpAnyH_take (i := 33) (oi := ⟨some 50, _, _, _, _, _⟩) (v := undef) rfl (by kernel_rfl) (by kernel_rfl) (by kernel_rfl) (fun _ _ _ h => h) (.inr ⟨by rfl, rfl⟩) hW ?_
    try simp only [Act.put, List.setIfInBounds_toArray, List.set_cons_zero, List.set_cons_succ]
    refine wpAnyH_take (i := 34) (oi := ⟨some 51, _, _, _, _, _⟩) (v := undef) rfl (by kernel_rfl) (by kernel_rfl) (by kernel_rfl) (fun _ _ _ h => h) (.inr ⟨by rfl, rfl⟩) hW ?_
    try simp only [Act.put, List.setIfInBounds_toArray, List.set_cons_zero, List.set_cons_succ]
    refine wpAnyH_take (i := 35) (oi := ⟨some 52, _, _, _, _, _⟩) (v := undef) rfl (by kernel_rfl) (by kernel_rfl) (by kernel_rfl) (fun _ _ _ h => h) (.inr ⟨by rfl, rfl⟩) hW ?_
    try simp only [Act.put, List.setIfInBounds_toArray, List.set_cons_zero, List.set_cons_succ]
    refine wpAnyH_take (i := 36) (oi := ⟨some 53, _, _, _, _, _⟩) (v := .bool false) rfl (by kernel_rfl) (by kernel_rfl) (by kernel_rfl) (fun _ _ _ h => h) (.inl ⟨by rfl, fun W1 h1 => by go_simp⟩) hW ?_
    try simp only [Act.put, List.setIfInBounds_toArray, List.set_cons_zero, List.set_cons_succ]
    refine wpAnyH_take (i := 37) (oi := ⟨some 4, _, _, _, _, _⟩) (v := .bool false) rfl (by kernel_rfl) (by kernel_rfl) (by kernel_rfl) (fun _ _ _ h => h) (.inl ⟨by rfl, fun W1 h1 => by go_simp⟩) hW ?_
    try simp only [Act.put, List.setIfInBounds_toArray, List.set_cons_zero, List.set_cons_succ]
    refine wpAnyH_done (by kernel_rfl) ?_ _
    have HW := Aside0.mk hW
    clear hW WDB
    go_wp2
    rw [HP.out]
    exact ⟨by rw [HFB.out]; rfl, HB9.out.trans (HW.out.mono HB9.out.size)⟩
  have d2 : decide (xa ≤ xb) = true := decide_eq_true q2
  rw [d2, Bool.true_and] at HFB
  clear q2
  by_cases q3 : k0 = f
  case neg =>
    rw [decide_eq_false q3] at E1 HFB
    rw [Bool.false_and] at HFB
    have d3 := E1.out
    clear q3
    go_enter Tryz.func85, Tryz.ntmps85
    go_upto_region 1 with (fail)
    rw [← hg2, ← hW9]
    clear hg2 hW9 h0
    have k1 := K1.out
    have n1' := N1.out
    go_upto_region 4 with (fail)
    have KF0 := Aside0.mk HKF.out.1
    clear k1 n1' hKl
    refine wp_region_held_drew (S := fun w' => Below W9.heap.size W9 w') (by kernel_rfl) (below_drew (Below.refl _ _)) (fun hW => ?_)
    have WDB := Aside0.mk (show Below W9.heap.size W9 W9.drew from below_drew (Below.refl _ _))
    generalize hWd : W9.drew = Wd at *
    clear hWd
    refine wpAnyH_take (i := 0) (oi := ⟨some 17, _, _, _, _, _⟩) (v := .pointer (some ⟨g2 + 1, 0, none⟩)) rfl (by kernel_rfl) (by kernel_rfl) (by kernel_rfl) (fun _ _ _ h => h) (.inl ⟨by rfl, fun W1 h1 => by go_simp⟩) hW ?_
    try simp only [Act.put, List.setIfInBounds_toArray, List.set_cons_zero, List.set_cons_succ]
    refine wpAnyH_take (i := 1) (oi := ⟨some 18, _, _, _, _, _⟩) (v := .int .i64 (lv : Int)) rfl (by kernel_rfl) (by kernel_rfl) (by kernel_rfl) (fun _ _ _ h => h) (.inl ⟨by rfl, fun W1 h1 => by have h2 := (Below.cell (p := ⟨g2 + 1, 0, none⟩) h1 h39).trans N0.out; clear h1; go_simp⟩) hW ?_
    try simp only [Act.put, List.setIfInBounds_toArray, List.set_cons_zero, List.set_cons_succ]
    refine wpAnyH_take (i := 2) (oi := ⟨some 19, _, _, _, _, _⟩) (v := .pointer (some ⟨g2, 36, none⟩)) rfl (by kernel_rfl) (by kernel_rfl) (by kernel_rfl) (fun _ _ _ h => h) (.inl ⟨by rfl, fun W1 h1 => by go_simp⟩) hW ?_
    try simp only [Act.put, List.setIfInBounds_toArray, List.set_cons_zero, List.set_cons_succ]
    refine wpAnyH_take (i := 3) (oi := ⟨some 20, _, _, _, _, _⟩) (v := .int .i64 xl) rfl (by kernel_rfl) (by kernel_rfl) (by kernel_rfl) (fun _ _ _ h => h) (.inl ⟨by rfl, fun W1 h1 => by have h2 := (Below.cell (p := ⟨g2, 36, none⟩) h1 h29).trans K1.out; clear h1; go_simp⟩) hW ?_
    try simp only [Act.put, List.setIfInBounds_toArray, List.set_cons_zero, List.set_cons_succ]
    refine wpAnyH_take (i := 4) (oi := ⟨some 21, _, _, _, _, _⟩) (v := .bool true) rfl (by kernel_rfl) (by kernel_rfl) (by kernel_rfl) (fun _ _ _ h => h) (.inl ⟨by rfl, fun W1 h1 => by go_simp⟩) hW ?_
    try simp only [Act.put, List.setIfInBounds_toArray, List.set_cons_zero, List.set_cons_succ]
    refine wpAnyH_take (i := 5) (oi := ⟨some 22, _, _, _, _, _⟩) (v := .bool true) rfl (by kernel_rfl) (by kernel_rfl) (by kernel_rfl) (fun _ _ _ h => h) (.inl ⟨by rfl, fun W1 h1 => by go_simp⟩) hW ?_
    try simp only [Act.put, List.setIfInBounds_toArray, List.set_cons_zero, List.set_cons_succ]
    refine wpAnyH_take (i := 6) (oi := ⟨some 23, _, _, _, _, _⟩) (v := .pointer (some ⟨g2, 0, none⟩)) rfl (by kernel_rfl) (by kernel_rfl) (by kernel_rfl) (fun _ _ _ h => h) (.inl ⟨by rfl, fun W1 h1 => by go_simp⟩) hW ?_
    try simp only [Act.put, List.setIfInBounds_toArray, List.set_cons_zero, List.set_cons_succ]
    refine wpAnyH_take (i := 7) (oi := ⟨some 24, _, _, _, _, _⟩) (v := .pointer (some ⟨g2, 1, none⟩)) rfl (by kernel_rfl) (by kernel_rfl) (by kernel_rfl) (fun _ _ _ h => h) (.inl ⟨by rfl, fun W1 h1 => by go_simp⟩) hW ?_
    try simp only [Act.put, List.setIfInBounds_toArray, List.set_cons_zero, List.set_cons_succ]
    refine wpAnyH_take (i := 8) (oi := ⟨some 25, _, _, _, _, _⟩) (v := .int .i64 xa) rfl (by kernel_rfl) (by kernel_rfl) (by kernel_rfl) (fun _ _ _ h => h) (.inl ⟨by rfl, fun W1 h1 => by have h2 := (Below.cell (p := ⟨g2, 1, none⟩) h1 h29).trans K0.out; clear h1; go_simp⟩) hW ?_
    try simp only [Act.put, List.setIfInBounds_toArray, List.set_cons_zero, List.set_cons_succ]
    refine wpAnyH_take (i := 9) (oi := ⟨some 26, _, _, _, _, _⟩) (v := .pointer (some ⟨g2, 37, none⟩)) rfl (by kernel_rfl) (by kernel_rfl) (by kernel_rfl) (fun _ _ _ h => h) (.inl ⟨by rfl, fun W1 h1 => by go_simp⟩) hW ?_
    try simp only [Act.put, List.setIfInBounds_toArray, List.set_cons_zero, List.set_cons_succ]
    refine wpAnyH_take (i := 10) (oi := ⟨some 27, _, _, _, _, _⟩) (v := .int .i64 xb) rfl (by kernel_rfl) (by kernel_rfl) (by kernel_rfl) (fun _ _ _ h => h) (.inl ⟨by rfl, fun W1 h1 => by have h2 := (Below.cell (p := ⟨g2, 37, none⟩) h1 h29).trans K2.out; clear h1; go_simp⟩) hW ?_
    try simp only [Act.put, List.setIfInBounds_toArray, List.set_cons_zero, List.set_cons_succ]
    refine wpAnyH_take (i := 11) (oi := ⟨some 28, _, _, _, _, _⟩) (v := .bool true) rfl (by kernel_rfl) (by kernel_rfl) (by kernel_rfl) (fun _ _ _ h => h) (.inl ⟨by rfl, fun W1 h1 => by go_simp⟩) hW ?_
    try simp only [Act.put, List.setIfInBounds_toArray, List.set_cons_zero, List.set_cons_succ]
    refine wpAnyH_take (i := 12) (oi := ⟨some 29, _, _, _, _, _⟩) (v := .bool true) rfl (by kernel_rfl) (by kernel_rfl) (by kernel_rfl) (fun _ _ _ h => h) (.inl ⟨by rfl, fun W1 h1 => by go_simp⟩) hW ?_
    try simp only [Act.put, List.setIfInBounds_toArray, List.set_cons_zero, List.set_cons_succ]
    refine wpAnyH_take (i := 13) (oi := ⟨some 30, _, _, _, _, _⟩) (v := .bool true) rfl (by kernel_rfl) (by kernel_rfl) (by kernel_rfl) (fun _ _ _ h => h) (.inl ⟨by rfl, fun W1 h1 => by go_simp⟩) hW ?_
    try simp only [Act.put, List.setIfInBounds_toArray, List.set_cons_zero, List.set_cons_succ]
    refine wpAnyH_take (i := 14) (oi := ⟨some 31, _, _, _, _, _⟩) (v := .pointer (some ⟨g2 + 1, 1, none⟩)) rfl (by kernel_rfl) (by kernel_rfl) (by kernel_rfl) (fun _ _ _ h => h) (.inl ⟨by rfl, fun W1 h1 => by go_simp⟩) hW ?_
    try simp only [Act.put, List.setIfInBounds_toArray, List.set_cons_zero, List.set_cons_succ]
    refine wpAnyH_take (i := 15) (oi := ⟨some 32, _, _, _, _, _⟩) (v := .slice (some ⟨bk, ok, none⟩) n1 c1) rfl (by kernel_rfl) (by kernel_rfl) (by kernel_rfl) (fun _ _ _ h => h) (.inl ⟨by rfl, fun W1 h1 => by have h2 := (Below.cell (p := ⟨g2 + 1, 1, none⟩) h1 h39).trans N1.out; clear h1; go_simp⟩) hW ?_
    try simp only [Act.put, List.setIfInBounds_toArray, List.set_cons_zero, List.set_cons_succ]
    refine wpAnyH_take (i := 16) (oi := ⟨some 33, _, _, _, _, _⟩) (v := .pointer (some ⟨bk, ok, none⟩)) rfl (by kernel_rfl) (by kernel_rfl) (by kernel_rfl) (fun _ _ _ h => h) (.inl ⟨by rfl, fun W1 h1 => by have hne0 : ¬ n1 = 0 := (by omega); go_simp⟩) hW ?_
    try simp only [Act.put, List.setIfInBounds_toArray, List.set_cons_zero, List.set_cons_succ]
    refine wpAnyH_take (i := 17) (oi := ⟨some 34, _, _, _, _, _⟩) (v := .slice Af m0 cf) rfl (by kernel_rfl) (by kernel_rfl) (by kernel_rfl) (fun _ _ _ h => h) (.inl ⟨by rfl, fun W1 h1 => by have h2 := (Below.cell (p := ⟨bk, ok, none⟩) h1 hbk).trans KF0.out; clear h1; go_simp⟩) hW ?_
    try simp only [Act.put, List.setIfInBounds_toArray, List.set_cons_zero, List.set_cons_succ]
    refine wpAnyH_take (i := 18) (oi := ⟨some 35, _, _, _, _, _⟩) (v := .string S1) rfl (by kernel_rfl) (by kernel_rfl) (by kernel_rfl) (fun _ _ _ h => h) (.inl ⟨by rfl, fun W1 h1 => by have hcv := V1.out W1 h1; clear h1; go_simp⟩) hW ?_
    try simp only [Act.put, List.setIfInBounds_toArray, List.set_cons_zero, List.set_cons_succ]
    refine wpAnyH_take (i := 19) (oi := ⟨some 36, _, _, _, _, _⟩) (v := .pointer (some ⟨g2, 38, none⟩)) rfl (by kernel_rfl) (by kernel_rfl) (by kernel_rfl) (fun _ _ _ h => h) (.inl ⟨by rfl, fun W1 h1 => by go_simp⟩) hW ?_
    try simp only [Act.put, List.setIfInBounds_toArray, List.set_cons_zero, List.set_cons_succ]
    refine wpAnyH_take (i := 20) (oi := ⟨some 37, _, _, _, _, _⟩) (v := tf) rfl (by kernel_rfl) (by kernel_rfl) (by kernel_rfl) (fun _ _ _ h => h) (.inl ⟨by rfl, fun W1 h1 => by have h2 := (Below.cell (p := ⟨g2, 38, none⟩) h1 h29).trans K3.out; clear h1; go_simp⟩) hW ?_
    try simp only [Act.put, List.setIfInBounds_toArray, List.set_cons_zero, List.set_cons_succ]
    refine wpAnyH_take (i := 21) (oi := ⟨some 38, _, _, _, _, _⟩) (v := .string S2) rfl (by kernel_rfl) (by kernel_rfl) (by kernel_rfl) (fun _ _ _ h => h) (.inl ⟨by rfl, fun W1 h1 => by have hcv := V2.out W1 h1; clear h1; go_simp⟩) hW ?_
    try simp only [Act.put, List.setIfInBounds_toArray, List.set_cons_zero, List.set_cons_succ]
    refine wpAnyH_take (i := 22) (oi := ⟨some 39, _, _, _, _, _⟩) (v := .bool false) rfl (by kernel_rfl) (by kernel_rfl) (by kernel_rfl) (fun _ _ _ h => h) (.inl ⟨by rfl, fun W1 h1 => by go_simp⟩) hW ?_
    try simp only [Act.put, List.setIfInBounds_toArray, List.set_cons_zero, List.set_cons_succ]
    refine wpAnyH_take (i := 23) (oi := ⟨some 40, _, _, _, _, _⟩) (v := .bool false) rfl (by kernel_rfl) (by kernel_rfl) (by kernel_rfl) (fun _ _ _ h => h) (.inl ⟨by rfl, fun W1 h1 => by go_simp⟩) hW ?_
    try simp only [Act.put, List.setIfInBounds_toArray, List.set_cons_zero, List.set_cons_succ]
    refine wpAnyH_take (i := 24) (oi := ⟨some 41, _, _, _, _, _⟩) (v := .bool false) rfl (by kernel_rfl) (by kernel_rfl) (by kernel_rfl) (fun _ _ _ h => h) (.inl ⟨by rfl, fun W1 h1 => by go_simp⟩) hW ?_
    try simp only [Act.put, List.setIfInBounds_toArray, List.set_cons_zero, List.set_cons_succ]
    refine wpAnyH_take (i := 25) (oi := ⟨some 42, _, _, _, _, _⟩) (v := undef) rfl (by kernel_rfl) (by kernel_rfl) (by kernel_rfl) (fun _ _ _ h => h) (.inr ⟨by rfl, rfl⟩) hW ?_
    try simp only [Act.put, List.setIfInBounds_toArray, List.set_cons_zero, List.set_cons_succ]
    refine wpAnyH_take (i := 26) (oi := ⟨some 43, _, _, _, _, _⟩) (v := undef) rfl (by kernel_rfl) (by kernel_rfl) (by kernel_rfl) (fun _ _ _ h => h) (.inr ⟨by rfl, rfl⟩) hW ?_
    try simp only [Act.put, List.setIfInBounds_toArray, List.set_cons_zero, List.set_cons_succ]
    refine wpAnyH_take (i := 27) (oi := ⟨some 44, _, _, _, _, _⟩) (v := undef) rfl (by kernel_rfl) (by kernel_rfl) (by kernel_rfl) (fun _ _ _ h => h) (.inr ⟨by rfl, rfl⟩) hW ?_
    try simp only [Act.put, List.setIfInBounds_toArray, List.set_cons_zero, List.set_cons_succ]
    refine wpAnyH_take (i := 28) (oi := ⟨some 45, _, _, _, _, _⟩) (v := undef) rfl (by kernel_rfl) (by kernel_rfl) (by kernel_rfl) (fun _ _ _ h => h) (.inr ⟨by rfl, rfl⟩) hW ?_
    try simp only [Act.put, List.setIfInBounds_toArray, List.set_cons_zero, List.set_cons_succ]
    refine wpAnyH_take (i := 29) (oi := ⟨some 46, _, _, _, _, _⟩) (v := undef) rfl (by kernel_rfl) (by kernel_rfl) (by kernel_rfl) (fun _ _ _ h => h) (.inr ⟨by rfl, rfl⟩) hW ?_
    try simp only [Act.put, List.setIfInBounds_toArray, List.set_cons_zero, List.set_cons_succ]
    refine wpAnyH_take (i := 30) (oi := ⟨some 47, _, _, _, _, _⟩) (v := undef) rfl (by kernel_rfl) (by kernel_rfl) (by kernel_rfl) (fun _ _ _ h => h) (.inr ⟨by rfl, rfl⟩) hW ?_
    try simp only [Act.put, List.setIfInBounds_toArray, List.set_cons_zero, List.set_cons_succ]
    refine wpAnyH_take (i := 31) (oi := ⟨some 48, _, _, _, _, _⟩) (v := undef) rfl (by kernel_rfl) (by kernel_rfl) (by kernel_rfl) (fun _ _ _ h => h) (.inr ⟨by rfl, rfl⟩) hW ?_
    try simp only [Act.put, List.setIfInBounds_toArray, List.set_cons_zero, List.set_cons_succ]
    refine wpAnyH_take (i := 32) (oi := ⟨some 49, _, _, _, _, _⟩) (v := undef) rfl (by kernel_rfl) (by kernel_rfl) (by kernel_rfl) (fun _ _ _ h => h) (.inr ⟨by rfl, rfl⟩) hW ?_
    try simp only [Act.put, List.setIfInBounds_toArray, List.set_cons_zero, List.set_cons_succ]
    refine wpAnyH_take (i := 33) (oi := ⟨some 50, _, _, _, _, _⟩) (v := undef) rfl (by kernel_rfl) (by kernel_rfl) (by kernel_rfl) (fun _ _ _ h => h) (.inr ⟨by rfl, rfl⟩) hW ?_
    try simp only [Act.put, List.setIfInBounds_toArray, List.set_cons_zero, List.set_cons_succ]
    refine wpAnyH_take (i := 34) (oi := ⟨some 51, _, _, _, _, _⟩) (v := undef) rfl (by kernel_rfl) (by kernel_rfl) (by kernel_rfl) (fun _ _ _ h => h) (.inr ⟨by rfl, rfl⟩) hW ?_
    try simp only [Act.put, List.setIfInBounds_toArray, List.set_cons_zero, List.set_cons_succ]
    refine wpAnyH_take (i := 35) (oi := ⟨some 52, _, _, _, _, _⟩) (v := undef) rfl (by kernel_rfl) (by kernel_rfl) (by kernel_rfl) (fun _ _ _ h => h) (.inr ⟨by rfl, rfl⟩) hW ?_
    try simp only [Act.put, List.setIfInBounds_toArray, List.set_cons_zero, List.set_cons_succ]
    refine wpAnyH_take (i := 36) (oi := ⟨some 53, _, _, _, _, _⟩) (v := .bool false) rfl (by kernel_rfl) (by kernel_rfl) (by kernel_rfl) (fun _ _ _ h => h) (.inl ⟨by rfl, fun W1 h1 => by go_simp⟩) hW ?_
    try simp only [Act.put, List.setIfInBounds_toArray, List.set_cons_zero, List.set_cons_succ]
    refine wpAnyH_take (i := 37) (oi := ⟨some 4, _, _, _, _, _⟩) (v := .bool false) rfl (by kernel_rfl) (by kernel_rfl) (by kernel_rfl) (fun _ _ _ h => h) (.inl ⟨by rfl, fun W1 h1 => by go_simp⟩) hW ?_
    try simp only [Act.put, List.setIfInBounds_toArray, List.set_cons_zero, List.set_cons_succ]
    refine wpAnyH_done (by kernel_rfl) ?_ _
    have HW := Aside0.mk hW
    clear hW WDB
    go_wp2
    rw [HP.out]
    exact ⟨by rw [HFB.out]; rfl, HB9.out.trans (HW.out.mono HB9.out.size)⟩
  rw [decide_eq_true q3] at E1 HFB
  rw [Bool.true_and] at HFB
  have d3 := E1.out
  clear q3
  rcases xe with _ | _
  case false =>
    go_enter Tryz.func85, Tryz.ntmps85
    go_upto_region 1 with (fail)
    rw [← hg2, ← hW9]
    clear hg2 hW9 h0
    have k1 := K1.out
    have n1' := N1.out
    go_upto_region 4 with (fail)
    have KF0 := Aside0.mk HKF.out.1
    clear k1 n1' hKl
    refine wp_region_held_drew (S := fun w' => Below W9.heap.size W9 w') (by kernel_rfl) (below_drew (Below.refl _ _)) (fun hW => ?_)
    have WDB := Aside0.mk (show Below W9.heap.size W9 W9.drew from below_drew (Below.refl _ _))
    generalize hWd : W9.drew = Wd at *
    clear hWd
    refine wpAnyH_take (i := 0) (oi := ⟨some 17, _, _, _, _, _⟩) (v := .pointer (some ⟨g2 + 1, 0, none⟩)) rfl (by kernel_rfl) (by kernel_rfl) (by kernel_rfl) (fun _ _ _ h => h) (.inl ⟨by rfl, fun W1 h1 => by go_simp⟩) hW ?_
    try simp only [Act.put, List.setIfInBounds_toArray, List.set_cons_zero, List.set_cons_succ]
    refine wpAnyH_take (i := 1) (oi := ⟨some 18, _, _, _, _, _⟩) (v := .int .i64 (lv : Int)) rfl (by kernel_rfl) (by kernel_rfl) (by kernel_rfl) (fun _ _ _ h => h) (.inl ⟨by rfl, fun W1 h1 => by have h2 := (Below.cell (p := ⟨g2 + 1, 0, none⟩) h1 h39).trans N0.out; clear h1; go_simp⟩) hW ?_
    try simp only [Act.put, List.setIfInBounds_toArray, List.set_cons_zero, List.set_cons_succ]
    refine wpAnyH_take (i := 2) (oi := ⟨some 19, _, _, _, _, _⟩) (v := .pointer (some ⟨g2, 36, none⟩)) rfl (by kernel_rfl) (by kernel_rfl) (by kernel_rfl) (fun _ _ _ h => h) (.inl ⟨by rfl, fun W1 h1 => by go_simp⟩) hW ?_
    try simp only [Act.put, List.setIfInBounds_toArray, List.set_cons_zero, List.set_cons_succ]
    refine wpAnyH_take (i := 3) (oi := ⟨some 20, _, _, _, _, _⟩) (v := .int .i64 xl) rfl (by kernel_rfl) (by kernel_rfl) (by kernel_rfl) (fun _ _ _ h => h) (.inl ⟨by rfl, fun W1 h1 => by have h2 := (Below.cell (p := ⟨g2, 36, none⟩) h1 h29).trans K1.out; clear h1; go_simp⟩) hW ?_
    try simp only [Act.put, List.setIfInBounds_toArray, List.set_cons_zero, List.set_cons_succ]
    refine wpAnyH_take (i := 4) (oi := ⟨some 21, _, _, _, _, _⟩) (v := .bool true) rfl (by kernel_rfl) (by kernel_rfl) (by kernel_rfl) (fun _ _ _ h => h) (.inl ⟨by rfl, fun W1 h1 => by go_simp⟩) hW ?_
    try simp only [Act.put, List.setIfInBounds_toArray, List.set_cons_zero, List.set_cons_succ]
    refine wpAnyH_take (i := 5) (oi := ⟨some 22, _, _, _, _, _⟩) (v := .bool true) rfl (by kernel_rfl) (by kernel_rfl) (by kernel_rfl) (fun _ _ _ h => h) (.inl ⟨by rfl, fun W1 h1 => by go_simp⟩) hW ?_
    try simp only [Act.put, List.setIfInBounds_toArray, List.set_cons_zero, List.set_cons_succ]
    refine wpAnyH_take (i := 6) (oi := ⟨some 23, _, _, _, _, _⟩) (v := .pointer (some ⟨g2, 0, none⟩)) rfl (by kernel_rfl) (by kernel_rfl) (by kernel_rfl) (fun _ _ _ h => h) (.inl ⟨by rfl, fun W1 h1 => by go_simp⟩) hW ?_
    try simp only [Act.put, List.setIfInBounds_toArray, List.set_cons_zero, List.set_cons_succ]
    refine wpAnyH_take (i := 7) (oi := ⟨some 24, _, _, _, _, _⟩) (v := .pointer (some ⟨g2, 1, none⟩)) rfl (by kernel_rfl) (by kernel_rfl) (by kernel_rfl) (fun _ _ _ h => h) (.inl ⟨by rfl, fun W1 h1 => by go_simp⟩) hW ?_
    try simp only [Act.put, List.setIfInBounds_toArray, List.set_cons_zero, List.set_cons_succ]
    refine wpAnyH_take (i := 8) (oi := ⟨some 25, _, _, _, _, _⟩) (v := .int .i64 xa) rfl (by kernel_rfl) (by kernel_rfl) (by kernel_rfl) (fun _ _ _ h => h) (.inl ⟨by rfl, fun W1 h1 => by have h2 := (Below.cell (p := ⟨g2, 1, none⟩) h1 h29).trans K0.out; clear h1; go_simp⟩) hW ?_
    try simp only [Act.put, List.setIfInBounds_toArray, List.set_cons_zero, List.set_cons_succ]
    refine wpAnyH_take (i := 9) (oi := ⟨some 26, _, _, _, _, _⟩) (v := .pointer (some ⟨g2, 37, none⟩)) rfl (by kernel_rfl) (by kernel_rfl) (by kernel_rfl) (fun _ _ _ h => h) (.inl ⟨by rfl, fun W1 h1 => by go_simp⟩) hW ?_
    try simp only [Act.put, List.setIfInBounds_toArray, List.set_cons_zero, List.set_cons_succ]
    refine wpAnyH_take (i := 10) (oi := ⟨some 27, _, _, _, _, _⟩) (v := .int .i64 xb) rfl (by kernel_rfl) (by kernel_rfl) (by kernel_rfl) (fun _ _ _ h => h) (.inl ⟨by rfl, fun W1 h1 => by have h2 := (Below.cell (p := ⟨g2, 37, none⟩) h1 h29).trans K2.out; clear h1; go_simp⟩) hW ?_
    try simp only [Act.put, List.setIfInBounds_toArray, List.set_cons_zero, List.set_cons_succ]
    refine wpAnyH_take (i := 11) (oi := ⟨some 28, _, _, _, _, _⟩) (v := .bool true) rfl (by kernel_rfl) (by kernel_rfl) (by kernel_rfl) (fun _ _ _ h => h) (.inl ⟨by rfl, fun W1 h1 => by go_simp⟩) hW ?_
    try simp only [Act.put, List.setIfInBounds_toArray, List.set_cons_zero, List.set_cons_succ]
    refine wpAnyH_take (i := 12) (oi := ⟨some 29, _, _, _, _, _⟩) (v := .bool true) rfl (by kernel_rfl) (by kernel_rfl) (by kernel_rfl) (fun _ _ _ h => h) (.inl ⟨by rfl, fun W1 h1 => by go_simp⟩) hW ?_
    try simp only [Act.put, List.setIfInBounds_toArray, List.set_cons_zero, List.set_cons_succ]
    refine wpAnyH_take (i := 13) (oi := ⟨some 30, _, _, _, _, _⟩) (v := .bool true) rfl (by kernel_rfl) (by kernel_rfl) (by kernel_rfl) (fun _ _ _ h => h) (.inl ⟨by rfl, fun W1 h1 => by go_simp⟩) hW ?_
    try simp only [Act.put, List.setIfInBounds_toArray, List.set_cons_zero, List.set_cons_succ]
    refine wpAnyH_take (i := 14) (oi := ⟨some 31, _, _, _, _, _⟩) (v := .pointer (some ⟨g2 + 1, 1, none⟩)) rfl (by kernel_rfl) (by kernel_rfl) (by kernel_rfl) (fun _ _ _ h => h) (.inl ⟨by rfl, fun W1 h1 => by go_simp⟩) hW ?_
    try simp only [Act.put, List.setIfInBounds_toArray, List.set_cons_zero, List.set_cons_succ]
    refine wpAnyH_take (i := 15) (oi := ⟨some 32, _, _, _, _, _⟩) (v := .slice (some ⟨bk, ok, none⟩) n1 c1) rfl (by kernel_rfl) (by kernel_rfl) (by kernel_rfl) (fun _ _ _ h => h) (.inl ⟨by rfl, fun W1 h1 => by have h2 := (Below.cell (p := ⟨g2 + 1, 1, none⟩) h1 h39).trans N1.out; clear h1; go_simp⟩) hW ?_
    try simp only [Act.put, List.setIfInBounds_toArray, List.set_cons_zero, List.set_cons_succ]
    refine wpAnyH_take (i := 16) (oi := ⟨some 33, _, _, _, _, _⟩) (v := .pointer (some ⟨bk, ok, none⟩)) rfl (by kernel_rfl) (by kernel_rfl) (by kernel_rfl) (fun _ _ _ h => h) (.inl ⟨by rfl, fun W1 h1 => by have hne0 : ¬ n1 = 0 := (by omega); go_simp⟩) hW ?_
    try simp only [Act.put, List.setIfInBounds_toArray, List.set_cons_zero, List.set_cons_succ]
    refine wpAnyH_take (i := 17) (oi := ⟨some 34, _, _, _, _, _⟩) (v := .slice Af m0 cf) rfl (by kernel_rfl) (by kernel_rfl) (by kernel_rfl) (fun _ _ _ h => h) (.inl ⟨by rfl, fun W1 h1 => by have h2 := (Below.cell (p := ⟨bk, ok, none⟩) h1 hbk).trans KF0.out; clear h1; go_simp⟩) hW ?_
    try simp only [Act.put, List.setIfInBounds_toArray, List.set_cons_zero, List.set_cons_succ]
    refine wpAnyH_take (i := 18) (oi := ⟨some 35, _, _, _, _, _⟩) (v := .string S1) rfl (by kernel_rfl) (by kernel_rfl) (by kernel_rfl) (fun _ _ _ h => h) (.inl ⟨by rfl, fun W1 h1 => by have hcv := V1.out W1 h1; clear h1; go_simp⟩) hW ?_
    try simp only [Act.put, List.setIfInBounds_toArray, List.set_cons_zero, List.set_cons_succ]
    refine wpAnyH_take (i := 19) (oi := ⟨some 36, _, _, _, _, _⟩) (v := .pointer (some ⟨g2, 38, none⟩)) rfl (by kernel_rfl) (by kernel_rfl) (by kernel_rfl) (fun _ _ _ h => h) (.inl ⟨by rfl, fun W1 h1 => by go_simp⟩) hW ?_
    try simp only [Act.put, List.setIfInBounds_toArray, List.set_cons_zero, List.set_cons_succ]
    refine wpAnyH_take (i := 20) (oi := ⟨some 37, _, _, _, _, _⟩) (v := tf) rfl (by kernel_rfl) (by kernel_rfl) (by kernel_rfl) (fun _ _ _ h => h) (.inl ⟨by rfl, fun W1 h1 => by have h2 := (Below.cell (p := ⟨g2, 38, none⟩) h1 h29).trans K3.out; clear h1; go_simp⟩) hW ?_
    try simp only [Act.put, List.setIfInBounds_toArray, List.set_cons_zero, List.set_cons_succ]
    refine wpAnyH_take (i := 21) (oi := ⟨some 38, _, _, _, _, _⟩) (v := .string S2) rfl (by kernel_rfl) (by kernel_rfl) (by kernel_rfl) (fun _ _ _ h => h) (.inl ⟨by rfl, fun W1 h1 => by have hcv := V2.out W1 h1; clear h1; go_simp⟩) hW ?_
    try simp only [Act.put, List.setIfInBounds_toArray, List.set_cons_zero, List.set_cons_succ]
    refine wpAnyH_take (i := 22) (oi := ⟨some 39, _, _, _, _, _⟩) (v := .bool true) rfl (by kernel_rfl) (by kernel_rfl) (by kernel_rfl) (fun _ _ _ h => h) (.inl ⟨by rfl, fun W1 h1 => by go_simp⟩) hW ?_
    try simp only [Act.put, List.setIfInBounds_toArray, List.set_cons_zero, List.set_cons_succ]
    refine wpAnyH_take (i := 23) (oi := ⟨some 40, _, _, _, _, _⟩) (v := .bool true) rfl (by kernel_rfl) (by kernel_rfl) (by kernel_rfl) (fun _ _ _ h => h) (.inl ⟨by rfl, fun W1 h1 => by go_simp⟩) hW ?_
    try simp only [Act.put, List.setIfInBounds_toArray, List.set_cons_zero, List.set_cons_succ]
    refine wpAnyH_take (i := 24) (oi := ⟨some 41, _, _, _, _, _⟩) (v := .bool true) rfl (by kernel_rfl) (by kernel_rfl) (by kernel_rfl) (fun _ _ _ h => h) (.inl ⟨by rfl, fun W1 h1 => by go_simp⟩) hW ?_
    try simp only [Act.put, List.setIfInBounds_toArray, List.set_cons_zero, List.set_cons_succ]
    refine wpAnyH_take (i := 25) (oi := ⟨some 42, _, _, _, _, _⟩) (v := .pointer (some ⟨g2, 40, none⟩)) rfl (by kernel_rfl) (by kernel_rfl) (by kernel_rfl) (fun _ _ _ h => h) (.inl ⟨by rfl, fun W1 h1 => by go_simp⟩) hW ?_
    try simp only [Act.put, List.setIfInBounds_toArray, List.set_cons_zero, List.set_cons_succ]
    refine wpAnyH_take (i := 26) (oi := ⟨some 43, _, _, _, _, _⟩) (v := .bool false) rfl (by kernel_rfl) (by kernel_rfl) (by kernel_rfl) (fun _ _ _ h => h) (.inl ⟨by rfl, fun W1 h1 => by have h2 := (Below.cell (p := ⟨g2, 40, none⟩) h1 h29).trans K5.out; clear h1; go_simp⟩) hW ?_
    try simp only [Act.put, List.setIfInBounds_toArray, List.set_cons_zero, List.set_cons_succ]
    refine wpAnyH_take (i := 27) (oi := ⟨some 44, _, _, _, _, _⟩) (v := .bool true) rfl (by kernel_rfl) (by kernel_rfl) (by kernel_rfl) (fun _ _ _ h => h) (.inl ⟨by rfl, fun W1 h1 => by go_simp⟩) hW ?_
    try simp only [Act.put, List.setIfInBounds_toArray, List.set_cons_zero, List.set_cons_succ]
    refine wpAnyH_take (i := 28) (oi := ⟨some 45, _, _, _, _, _⟩) (v := .bool true) rfl (by kernel_rfl) (by kernel_rfl) (by kernel_rfl) (fun _ _ _ h => h) (.inl ⟨by rfl, fun W1 h1 => by go_simp⟩) hW ?_
    try simp only [Act.put, List.setIfInBounds_toArray, List.set_cons_zero, List.set_cons_succ]
    refine wpAnyH_take (i := 29) (oi := ⟨some 46, _, _, _, _, _⟩) (v := undef) rfl (by kernel_rfl) (by kernel_rfl) (by kernel_rfl) (fun _ _ _ h => h) (.inr ⟨by rfl, rfl⟩) hW ?_
    try simp only [Act.put, List.setIfInBounds_toArray, List.set_cons_zero, List.set_cons_succ]
    refine wpAnyH_take (i := 30) (oi := ⟨some 47, _, _, _, _, _⟩) (v := undef) rfl (by kernel_rfl) (by kernel_rfl) (by kernel_rfl) (fun _ _ _ h => h) (.inr ⟨by rfl, rfl⟩) hW ?_
    try simp only [Act.put, List.setIfInBounds_toArray, List.set_cons_zero, List.set_cons_succ]
    refine wpAnyH_take (i := 31) (oi := ⟨some 48, _, _, _, _, _⟩) (v := undef) rfl (by kernel_rfl) (by kernel_rfl) (by kernel_rfl) (fun _ _ _ h => h) (.inr ⟨by rfl, rfl⟩) hW ?_
    try simp only [Act.put, List.setIfInBounds_toArray, List.set_cons_zero, List.set_cons_succ]
    refine wpAnyH_take (i := 32) (oi := ⟨some 49, _, _, _, _, _⟩) (v := undef) rfl (by kernel_rfl) (by kernel_rfl) (by kernel_rfl) (fun _ _ _ h => h) (.inr ⟨by rfl, rfl⟩) hW ?_
    try simp only [Act.put, List.setIfInBounds_toArray, List.set_cons_zero, List.set_cons_succ]
    refine wpAnyH_take (i := 33) (oi := ⟨some 50, _, _, _, _, _⟩) (v := undef) rfl (by kernel_rfl) (by kernel_rfl) (by kernel_rfl) (fun _ _ _ h => h) (.inr ⟨by rfl, rfl⟩) hW ?_
    try simp only [Act.put, List.setIfInBounds_toArray, List.set_cons_zero, List.set_cons_succ]
    refine wpAnyH_take (i := 34) (oi := ⟨some 51, _, _, _, _, _⟩) (v := undef) rfl (by kernel_rfl) (by kernel_rfl) (by kernel_rfl) (fun _ _ _ h => h) (.inr ⟨by rfl, rfl⟩) hW ?_
    try simp only [Act.put, List.setIfInBounds_toArray, List.set_cons_zero, List.set_cons_succ]
    refine wpAnyH_take (i := 35) (oi := ⟨some 52, _, _, _, _, _⟩) (v := .bool true) rfl (by kernel_rfl) (by kernel_rfl) (by kernel_rfl) (fun _ _ _ h => h) (.inl ⟨by rfl, fun W1 h1 => by go_simp⟩) hW ?_
    try simp only [Act.put, List.setIfInBounds_toArray, List.set_cons_zero, List.set_cons_succ]
    refine wpAnyH_take (i := 36) (oi := ⟨some 53, _, _, _, _, _⟩) (v := .bool true) rfl (by kernel_rfl) (by kernel_rfl) (by kernel_rfl) (fun _ _ _ h => h) (.inl ⟨by rfl, fun W1 h1 => by go_simp⟩) hW ?_
    try simp only [Act.put, List.setIfInBounds_toArray, List.set_cons_zero, List.set_cons_succ]
    refine wpAnyH_take (i := 37) (oi := ⟨some 4, _, _, _, _, _⟩) (v := .bool true) rfl (by kernel_rfl) (by kernel_rfl) (by kernel_rfl) (fun _ _ _ h => h) (.inl ⟨by rfl, fun W1 h1 => by go_simp⟩) hW ?_
    try simp only [Act.put, List.setIfInBounds_toArray, List.set_cons_zero, List.set_cons_succ]
    refine wpAnyH_done (by kernel_rfl) ?_ _
    have HW := Aside0.mk hW
    clear hW WDB
    go_wp2
    rw [HP.out]
    exact ⟨by rw [HFB.out]; rfl, HB9.out.trans (HW.out.mono HB9.out.size)⟩
  rw [Bool.not_true, Bool.false_or] at HFB
  by_cases q4 : ltL kL b = true
  case pos =>
    rw [q4] at HFB E2
    have d4 := E2.out
    clear q4
    go_enter Tryz.func85, Tryz.ntmps85
    go_upto_region 1 with (fail)
    rw [← hg2, ← hW9]
    clear hg2 hW9 h0
    have k1 := K1.out
    have n1' := N1.out
    go_upto_region 4 with (fail)
    have KF0 := Aside0.mk HKF.out.1
    clear k1 n1' hKl
    refine wp_region_held_drew (S := fun w' => Below W9.heap.size W9 w') (by kernel_rfl) (below_drew (Below.refl _ _)) (fun hW => ?_)
    have WDB := Aside0.mk (show Below W9.heap.size W9 W9.drew from below_drew (Below.refl _ _))
    generalize hWd : W9.drew = Wd at *
    clear hWd
    refine wpAnyH_take (i := 0) (oi := ⟨some 17, _, _, _, _, _⟩) (v := .pointer (some ⟨g2 + 1, 0, none⟩)) rfl (by kernel_rfl) (by kernel_rfl) (by kernel_rfl) (fun _ _ _ h => h) (.inl ⟨by rfl, fun W1 h1 => by go_simp⟩) hW ?_
    try simp only [Act.put, List.setIfInBounds_toArray, List.set_cons_zero, List.set_cons_succ]
    refine wpAnyH_take (i := 1) (oi := ⟨some 18, _, _, _, _, _⟩) (v := .int .i64 (lv : Int)) rfl (by kernel_rfl) (by kernel_rfl) (by kernel_rfl) (fun _ _ _ h => h) (.inl ⟨by rfl, fun W1 h1 => by have h2 := (Below.cell (p := ⟨g2 + 1, 0, none⟩) h1 h39).trans N0.out; clear h1; go_simp⟩) hW ?_
    try simp only [Act.put, List.setIfInBounds_toArray, List.set_cons_zero, List.set_cons_succ]
    refine wpAnyH_take (i := 2) (oi := ⟨some 19, _, _, _, _, _⟩) (v := .pointer (some ⟨g2, 36, none⟩)) rfl (by kernel_rfl) (by kernel_rfl) (by kernel_rfl) (fun _ _ _ h => h) (.inl ⟨by rfl, fun W1 h1 => by go_simp⟩) hW ?_
    try simp only [Act.put, List.setIfInBounds_toArray, List.set_cons_zero, List.set_cons_succ]
    refine wpAnyH_take (i := 3) (oi := ⟨some 20, _, _, _, _, _⟩) (v := .int .i64 xl) rfl (by kernel_rfl) (by kernel_rfl) (by kernel_rfl) (fun _ _ _ h => h) (.inl ⟨by rfl, fun W1 h1 => by have h2 := (Below.cell (p := ⟨g2, 36, none⟩) h1 h29).trans K1.out; clear h1; go_simp⟩) hW ?_
    try simp only [Act.put, List.setIfInBounds_toArray, List.set_cons_zero, List.set_cons_succ]
    refine wpAnyH_take (i := 4) (oi := ⟨some 21, _, _, _, _, _⟩) (v := .bool true) rfl (by kernel_rfl) (by kernel_rfl) (by kernel_rfl) (fun _ _ _ h => h) (.inl ⟨by rfl, fun W1 h1 => by go_simp⟩) hW ?_
    try simp only [Act.put, List.setIfInBounds_toArray, List.set_cons_zero, List.set_cons_succ]
    refine wpAnyH_take (i := 5) (oi := ⟨some 22, _, _, _, _, _⟩) (v := .bool true) rfl (by kernel_rfl) (by kernel_rfl) (by kernel_rfl) (fun _ _ _ h => h) (.inl ⟨by rfl, fun W1 h1 => by go_simp⟩) hW ?_
    try simp only [Act.put, List.setIfInBounds_toArray, List.set_cons_zero, List.set_cons_succ]
    refine wpAnyH_take (i := 6) (oi := ⟨some 23, _, _, _, _, _⟩) (v := .pointer (some ⟨g2, 0, none⟩)) rfl (by kernel_rfl) (by kernel_rfl) (by kernel_rfl) (fun _ _ _ h => h) (.inl ⟨by rfl, fun W1 h1 => by go_simp⟩) hW ?_
    try simp only [Act.put, List.setIfInBounds_toArray, List.set_cons_zero, List.set_cons_succ]
    refine wpAnyH_take (i := 7) (oi := ⟨some 24, _, _, _, _, _⟩) (v := .pointer (some ⟨g2, 1, none⟩)) rfl (by kernel_rfl) (by kernel_rfl) (by kernel_rfl) (fun _ _ _ h => h) (.inl ⟨by rfl, fun W1 h1 => by go_simp⟩) hW ?_
    try simp only [Act.put, List.setIfInBounds_toArray, List.set_cons_zero, List.set_cons_succ]
    refine wpAnyH_take (i := 8) (oi := ⟨some 25, _, _, _, _, _⟩) (v := .int .i64 xa) rfl (by kernel_rfl) (by kernel_rfl) (by kernel_rfl) (fun _ _ _ h => h) (.inl ⟨by rfl, fun W1 h1 => by have h2 := (Below.cell (p := ⟨g2, 1, none⟩) h1 h29).trans K0.out; clear h1; go_simp⟩) hW ?_
    try simp only [Act.put, List.setIfInBounds_toArray, List.set_cons_zero, List.set_cons_succ]
    refine wpAnyH_take (i := 9) (oi := ⟨some 26, _, _, _, _, _⟩) (v := .pointer (some ⟨g2, 37, none⟩)) rfl (by kernel_rfl) (by kernel_rfl) (by kernel_rfl) (fun _ _ _ h => h) (.inl ⟨by rfl, fun W1 h1 => by go_simp⟩) hW ?_
    try simp only [Act.put, List.setIfInBounds_toArray, List.set_cons_zero, List.set_cons_succ]
    refine wpAnyH_take (i := 10) (oi := ⟨some 27, _, _, _, _, _⟩) (v := .int .i64 xb) rfl (by kernel_rfl) (by kernel_rfl) (by kernel_rfl) (fun _ _ _ h => h) (.inl ⟨by rfl, fun W1 h1 => by have h2 := (Below.cell (p := ⟨g2, 37, none⟩) h1 h29).trans K2.out; clear h1; go_simp⟩) hW ?_
    try simp only [Act.put, List.setIfInBounds_toArray, List.set_cons_zero, List.set_cons_succ]
    refine wpAnyH_take (i := 11) (oi := ⟨some 28, _, _, _, _, _⟩) (v := .bool true) rfl (by kernel_rfl) (by kernel_rfl) (by kernel_rfl) (fun _ _ _ h => h) (.inl ⟨by rfl, fun W1 h1 => by go_simp⟩) hW ?_
    try simp only [Act.put, List.setIfInBounds_toArray, List.set_cons_zero, List.set_cons_succ]
    refine wpAnyH_take (i := 12) (oi := ⟨some 29, _, _, _, _, _⟩) (v := .bool true) rfl (by kernel_rfl) (by kernel_rfl) (by kernel_rfl) (fun _ _ _ h => h) (.inl ⟨by rfl, fun W1 h1 => by go_simp⟩) hW ?_
    try simp only [Act.put, List.setIfInBounds_toArray, List.set_cons_zero, List.set_cons_succ]
    refine wpAnyH_take (i := 13) (oi := ⟨some 30, _, _, _, _, _⟩) (v := .bool true) rfl (by kernel_rfl) (by kernel_rfl) (by kernel_rfl) (fun _ _ _ h => h) (.inl ⟨by rfl, fun W1 h1 => by go_simp⟩) hW ?_
    try simp only [Act.put, List.setIfInBounds_toArray, List.set_cons_zero, List.set_cons_succ]
    refine wpAnyH_take (i := 14) (oi := ⟨some 31, _, _, _, _, _⟩) (v := .pointer (some ⟨g2 + 1, 1, none⟩)) rfl (by kernel_rfl) (by kernel_rfl) (by kernel_rfl) (fun _ _ _ h => h) (.inl ⟨by rfl, fun W1 h1 => by go_simp⟩) hW ?_
    try simp only [Act.put, List.setIfInBounds_toArray, List.set_cons_zero, List.set_cons_succ]
    refine wpAnyH_take (i := 15) (oi := ⟨some 32, _, _, _, _, _⟩) (v := .slice (some ⟨bk, ok, none⟩) n1 c1) rfl (by kernel_rfl) (by kernel_rfl) (by kernel_rfl) (fun _ _ _ h => h) (.inl ⟨by rfl, fun W1 h1 => by have h2 := (Below.cell (p := ⟨g2 + 1, 1, none⟩) h1 h39).trans N1.out; clear h1; go_simp⟩) hW ?_
    try simp only [Act.put, List.setIfInBounds_toArray, List.set_cons_zero, List.set_cons_succ]
    refine wpAnyH_take (i := 16) (oi := ⟨some 33, _, _, _, _, _⟩) (v := .pointer (some ⟨bk, ok, none⟩)) rfl (by kernel_rfl) (by kernel_rfl) (by kernel_rfl) (fun _ _ _ h => h) (.inl ⟨by rfl, fun W1 h1 => by have hne0 : ¬ n1 = 0 := (by omega); go_simp⟩) hW ?_
    try simp only [Act.put, List.setIfInBounds_toArray, List.set_cons_zero, List.set_cons_succ]
    refine wpAnyH_take (i := 17) (oi := ⟨some 34, _, _, _, _, _⟩) (v := .slice Af m0 cf) rfl (by kernel_rfl) (by kernel_rfl) (by kernel_rfl) (fun _ _ _ h => h) (.inl ⟨by rfl, fun W1 h1 => by have h2 := (Below.cell (p := ⟨bk, ok, none⟩) h1 hbk).trans KF0.out; clear h1; go_simp⟩) hW ?_
    try simp only [Act.put, List.setIfInBounds_toArray, List.set_cons_zero, List.set_cons_succ]
    refine wpAnyH_take (i := 18) (oi := ⟨some 35, _, _, _, _, _⟩) (v := .string S1) rfl (by kernel_rfl) (by kernel_rfl) (by kernel_rfl) (fun _ _ _ h => h) (.inl ⟨by rfl, fun W1 h1 => by have hcv := V1.out W1 h1; clear h1; go_simp⟩) hW ?_
    try simp only [Act.put, List.setIfInBounds_toArray, List.set_cons_zero, List.set_cons_succ]
    refine wpAnyH_take (i := 19) (oi := ⟨some 36, _, _, _, _, _⟩) (v := .pointer (some ⟨g2, 38, none⟩)) rfl (by kernel_rfl) (by kernel_rfl) (by kernel_rfl) (fun _ _ _ h => h) (.inl ⟨by rfl, fun W1 h1 => by go_simp⟩) hW ?_
    try simp only [Act.put, List.setIfInBounds_toArray, List.set_cons_zero, List.set_cons_succ]
    refine wpAnyH_take (i := 20) (oi := ⟨some 37, _, _, _, _, _⟩) (v := tf) rfl (by kernel_rfl) (by kernel_rfl) (by kernel_rfl) (fun _ _ _ h => h) (.inl ⟨by rfl, fun W1 h1 => by have h2 := (Below.cell (p := ⟨g2, 38, none⟩) h1 h29).trans K3.out; clear h1; go_simp⟩) hW ?_
    try simp only [Act.put, List.setIfInBounds_toArray, List.set_cons_zero, List.set_cons_succ]
    refine wpAnyH_take (i := 21) (oi := ⟨some 38, _, _, _, _, _⟩) (v := .string S2) rfl (by kernel_rfl) (by kernel_rfl) (by kernel_rfl) (fun _ _ _ h => h) (.inl ⟨by rfl, fun W1 h1 => by have hcv := V2.out W1 h1; clear h1; go_simp⟩) hW ?_
    try simp only [Act.put, List.setIfInBounds_toArray, List.set_cons_zero, List.set_cons_succ]
    refine wpAnyH_take (i := 22) (oi := ⟨some 39, _, _, _, _, _⟩) (v := .bool true) rfl (by kernel_rfl) (by kernel_rfl) (by kernel_rfl) (fun _ _ _ h => h) (.inl ⟨by rfl, fun W1 h1 => by go_simp⟩) hW ?_
    try simp only [Act.put, List.setIfInBounds_toArray, List.set_cons_zero, List.set_cons_succ]
    refine wpAnyH_take (i := 23) (oi := ⟨some 40, _, _, _, _, _⟩) (v := .bool true) rfl (by kernel_rfl) (by kernel_rfl) (by kernel_rfl) (fun _ _ _ h => h) (.inl ⟨by rfl, fun W1 h1 => by go_simp⟩) hW ?_
    try simp only [Act.put, List.setIfInBounds_toArray, List.set_cons_zero, List.set_cons_succ]
    refine wpAnyH_take (i := 24) (oi := ⟨some 41, _, _, _, _, _⟩) (v := .bool true) rfl (by kernel_rfl) (by kernel_rfl) (by kernel_rfl) (fun _ _ _ h => h) (.inl ⟨by rfl, fun W1 h1 => by go_simp⟩) hW ?_
    try simp only [Act.put, List.setIfInBounds_toArray, List.set_cons_zero, List.set_cons_succ]
    refine wpAnyH_take (i := 25) (oi := ⟨some 42, _, _, _, _, _⟩) (v := .pointer (some ⟨g2, 40, none⟩)) rfl (by kernel_rfl) (by kernel_rfl) (by kernel_rfl) (fun _ _ _ h => h) (.inl ⟨by rfl, fun W1 h1 => by go_simp⟩) hW ?_
    try simp only [Act.put, List.setIfInBounds_toArray, List.set_cons_zero, List.set_cons_succ]
    refine wpAnyH_take (i := 26) (oi := ⟨some 43, _, _, _, _, _⟩) (v := .bool true) rfl (by kernel_rfl) (by kernel_rfl) (by kernel_rfl) (fun _ _ _ h => h) (.inl ⟨by rfl, fun W1 h1 => by have h2 := (Below.cell (p := ⟨g2, 40, none⟩) h1 h29).trans K5.out; clear h1; go_simp⟩) hW ?_
    try simp only [Act.put, List.setIfInBounds_toArray, List.set_cons_zero, List.set_cons_succ]
    refine wpAnyH_take (i := 27) (oi := ⟨some 44, _, _, _, _, _⟩) (v := .bool false) rfl (by kernel_rfl) (by kernel_rfl) (by kernel_rfl) (fun _ _ _ h => h) (.inl ⟨by rfl, fun W1 h1 => by go_simp⟩) hW ?_
    try simp only [Act.put, List.setIfInBounds_toArray, List.set_cons_zero, List.set_cons_succ]
    refine wpAnyH_take (i := 28) (oi := ⟨some 45, _, _, _, _, _⟩) (v := .bool false) rfl (by kernel_rfl) (by kernel_rfl) (by kernel_rfl) (fun _ _ _ h => h) (.inl ⟨by rfl, fun W1 h1 => by go_simp⟩) hW ?_
    try simp only [Act.put, List.setIfInBounds_toArray, List.set_cons_zero, List.set_cons_succ]
    refine wpAnyH_take (i := 29) (oi := ⟨some 46, _, _, _, _, _⟩) (v := .slice Al mL cL) rfl (by kernel_rfl) (by kernel_rfl) (by kernel_rfl) (fun _ _ _ h => h) (.inl ⟨by rfl, fun W1 h1 => by go_simp⟩) hW ?_
    try simp only [Act.put, List.setIfInBounds_toArray, List.set_cons_zero, List.set_cons_succ]
    refine wpAnyH_take (i := 30) (oi := ⟨some 47, _, _, _, _, _⟩) (v := .string S3) rfl (by kernel_rfl) (by kernel_rfl) (by kernel_rfl) (fun _ _ _ h => h) (.inl ⟨by rfl, fun W1 h1 => by have hcv := V3.out W1 h1; clear h1; go_simp⟩) hW ?_
    try simp only [Act.put, List.setIfInBounds_toArray, List.set_cons_zero, List.set_cons_succ]
    refine wpAnyH_take (i := 31) (oi := ⟨some 48, _, _, _, _, _⟩) (v := .pointer (some ⟨g2, 39, none⟩)) rfl (by kernel_rfl) (by kernel_rfl) (by kernel_rfl) (fun _ _ _ h => h) (.inl ⟨by rfl, fun W1 h1 => by go_simp⟩) hW ?_
    try simp only [Act.put, List.setIfInBounds_toArray, List.set_cons_zero, List.set_cons_succ]
    refine wpAnyH_take (i := 32) (oi := ⟨some 49, _, _, _, _, _⟩) (v := tb) rfl (by kernel_rfl) (by kernel_rfl) (by kernel_rfl) (fun _ _ _ h => h) (.inl ⟨by rfl, fun W1 h1 => by have h2 := (Below.cell (p := ⟨g2, 39, none⟩) h1 h29).trans K4.out; clear h1; go_simp⟩) hW ?_
    try simp only [Act.put, List.setIfInBounds_toArray, List.set_cons_zero, List.set_cons_succ]
    refine wpAnyH_take (i := 33) (oi := ⟨some 50, _, _, _, _, _⟩) (v := .string S4) rfl (by kernel_rfl) (by kernel_rfl) (by kernel_rfl) (fun _ _ _ h => h) (.inl ⟨by rfl, fun W1 h1 => by have hcv := V4.out W1 h1; clear h1; go_simp⟩) hW ?_
    try simp only [Act.put, List.setIfInBounds_toArray, List.set_cons_zero, List.set_cons_succ]
    refine wpAnyH_take (i := 34) (oi := ⟨some 51, _, _, _, _, _⟩) (v := .bool true) rfl (by kernel_rfl) (by kernel_rfl) (by kernel_rfl) (fun _ _ _ h => h) (.inl ⟨by rfl, fun W1 h1 => by go_simp⟩) hW ?_
    try simp only [Act.put, List.setIfInBounds_toArray, List.set_cons_zero, List.set_cons_succ]
    refine wpAnyH_take (i := 35) (oi := ⟨some 52, _, _, _, _, _⟩) (v := .bool true) rfl (by kernel_rfl) (by kernel_rfl) (by kernel_rfl) (fun _ _ _ h => h) (.inl ⟨by rfl, fun W1 h1 => by go_simp⟩) hW ?_
    try simp only [Act.put, List.setIfInBounds_toArray, List.set_cons_zero, List.set_cons_succ]
    refine wpAnyH_take (i := 36) (oi := ⟨some 53, _, _, _, _, _⟩) (v := .bool true) rfl (by kernel_rfl) (by kernel_rfl) (by kernel_rfl) (fun _ _ _ h => h) (.inl ⟨by rfl, fun W1 h1 => by go_simp⟩) hW ?_
    try simp only [Act.put, List.setIfInBounds_toArray, List.set_cons_zero, List.set_cons_succ]
    refine wpAnyH_take (i := 37) (oi := ⟨some 4, _, _, _, _, _⟩) (v := .bool true) rfl (by kernel_rfl) (by kernel_rfl) (by kernel_rfl) (fun _ _ _ h => h) (.inl ⟨by rfl, fun W1 h1 => by go_simp⟩) hW ?_
    try simp only [Act.put, List.setIfInBounds_toArray, List.set_cons_zero, List.set_cons_succ]
    refine wpAnyH_done (by kernel_rfl) ?_ _
    have HW := Aside0.mk hW
    clear hW WDB
    go_wp2
    rw [HP.out]
    exact ⟨by rw [HFB.out]; rfl, HB9.out.trans (HW.out.mono HB9.out.size)⟩
  rw [Bool.not_eq_true] at q4
  rw [q4] at HFB E2
  have d4 := E2.out
  clear q4
  go_enter Tryz.func85, Tryz.ntmps85
  go_upto_region 1 with (fail)
  rw [← hg2, ← hW9]
  clear hg2 hW9 h0
  have k1 := K1.out
  have n1' := N1.out
  go_upto_region 4 with (fail)
  have KF0 := Aside0.mk HKF.out.1
  clear k1 n1' hKl
  refine wp_region_held_drew (S := fun w' => Below W9.heap.size W9 w') (by kernel_rfl) (below_drew (Below.refl _ _)) (fun hW => ?_)
  have WDB := Aside0.mk (show Below W9.heap.size W9 W9.drew from below_drew (Below.refl _ _))
  generalize hWd : W9.drew = Wd at *
  clear hWd
  refine wpAnyH_take (i := 0) (oi := ⟨some 17, _, _, _, _, _⟩) (v := .pointer (some ⟨g2 + 1, 0, none⟩)) rfl (by kernel_rfl) (by kernel_rfl) (by kernel_rfl) (fun _ _ _ h => h) (.inl ⟨by rfl, fun W1 h1 => by go_simp⟩) hW ?_
  try simp only [Act.put, List.setIfInBounds_toArray, List.set_cons_zero, List.set_cons_succ]
  refine wpAnyH_take (i := 1) (oi := ⟨some 18, _, _, _, _, _⟩) (v := .int .i64 (lv : Int)) rfl (by kernel_rfl) (by kernel_rfl) (by kernel_rfl) (fun _ _ _ h => h) (.inl ⟨by rfl, fun W1 h1 => by have h2 := (Below.cell (p := ⟨g2 + 1, 0, none⟩) h1 h39).trans N0.out; clear h1; go_simp⟩) hW ?_
  try simp only [Act.put, List.setIfInBounds_toArray, List.set_cons_zero, List.set_cons_succ]
  refine wpAnyH_take (i := 2) (oi := ⟨some 19, _, _, _, _, _⟩) (v := .pointer (some ⟨g2, 36, none⟩)) rfl (by kernel_rfl) (by kernel_rfl) (by kernel_rfl) (fun _ _ _ h => h) (.inl ⟨by rfl, fun W1 h1 => by go_simp⟩) hW ?_
  try simp only [Act.put, List.setIfInBounds_toArray, List.set_cons_zero, List.set_cons_succ]
  refine wpAnyH_take (i := 3) (oi := ⟨some 20, _, _, _, _, _⟩) (v := .int .i64 xl) rfl (by kernel_rfl) (by kernel_rfl) (by kernel_rfl) (fun _ _ _ h => h) (.inl ⟨by rfl, fun W1 h1 => by have h2 := (Below.cell (p := ⟨g2, 36, none⟩) h1 h29).trans K1.out; clear h1; go_simp⟩) hW ?_
  try simp only [Act.put, List.setIfInBounds_toArray, List.set_cons_zero, List.set_cons_succ]
  refine wpAnyH_take (i := 4) (oi := ⟨some 21, _, _, _, _, _⟩) (v := .bool true) rfl (by kernel_rfl) (by kernel_rfl) (by kernel_rfl) (fun _ _ _ h => h) (.inl ⟨by rfl, fun W1 h1 => by go_simp⟩) hW ?_
  try simp only [Act.put, List.setIfInBounds_toArray, List.set_cons_zero, List.set_cons_succ]
  refine wpAnyH_take (i := 5) (oi := ⟨some 22, _, _, _, _, _⟩) (v := .bool true) rfl (by kernel_rfl) (by kernel_rfl) (by kernel_rfl) (fun _ _ _ h => h) (.inl ⟨by rfl, fun W1 h1 => by go_simp⟩) hW ?_
  try simp only [Act.put, List.setIfInBounds_toArray, List.set_cons_zero, List.set_cons_succ]
  refine wpAnyH_take (i := 6) (oi := ⟨some 23, _, _, _, _, _⟩) (v := .pointer (some ⟨g2, 0, none⟩)) rfl (by kernel_rfl) (by kernel_rfl) (by kernel_rfl) (fun _ _ _ h => h) (.inl ⟨by rfl, fun W1 h1 => by go_simp⟩) hW ?_
  try simp only [Act.put, List.setIfInBounds_toArray, List.set_cons_zero, List.set_cons_succ]
  refine wpAnyH_take (i := 7) (oi := ⟨some 24, _, _, _, _, _⟩) (v := .pointer (some ⟨g2, 1, none⟩)) rfl (by kernel_rfl) (by kernel_rfl) (by kernel_rfl) (fun _ _ _ h => h) (.inl ⟨by rfl, fun W1 h1 => by go_simp⟩) hW ?_
  try simp only [Act.put, List.setIfInBounds_toArray, List.set_cons_zero, List.set_cons_succ]
  refine wpAnyH_take (i := 8) (oi := ⟨some 25, _, _, _, _, _⟩) (v := .int .i64 xa) rfl (by kernel_rfl) (by kernel_rfl) (by kernel_rfl) (fun _ _ _ h => h) (.inl ⟨by rfl, fun W1 h1 => by have h2 := (Below.cell (p := ⟨g2, 1, none⟩) h1 h29).trans K0.out; clear h1; go_simp⟩) hW ?_
  try simp only [Act.put, List.setIfInBounds_toArray, List.set_cons_zero, List.set_cons_succ]
  refine wpAnyH_take (i := 9) (oi := ⟨some 26, _, _, _, _, _⟩) (v := .pointer (some ⟨g2, 37, none⟩)) rfl (by kernel_rfl) (by kernel_rfl) (by kernel_rfl) (fun _ _ _ h => h) (.inl ⟨by rfl, fun W1 h1 => by go_simp⟩) hW ?_
  try simp only [Act.put, List.setIfInBounds_toArray, List.set_cons_zero, List.set_cons_succ]
  refine wpAnyH_take (i := 10) (oi := ⟨some 27, _, _, _, _, _⟩) (v := .int .i64 xb) rfl (by kernel_rfl) (by kernel_rfl) (by kernel_rfl) (fun _ _ _ h => h) (.inl ⟨by rfl, fun W1 h1 => by have h2 := (Below.cell (p := ⟨g2, 37, none⟩) h1 h29).trans K2.out; clear h1; go_simp⟩) hW ?_
  try simp only [Act.put, List.setIfInBounds_toArray, List.set_cons_zero, List.set_cons_succ]
  refine wpAnyH_take (i := 11) (oi := ⟨some 28, _, _, _, _, _⟩) (v := .bool true) rfl (by kernel_rfl) (by kernel_rfl) (by kernel_rfl) (fun _ _ _ h => h) (.inl ⟨by rfl, fun W1 h1 => by go_simp⟩) hW ?_
  try simp only [Act.put, List.setIfInBounds_toArray, List.set_cons_zero, List.set_cons_succ]
  refine wpAnyH_take (i := 12) (oi := ⟨some 29, _, _, _, _, _⟩) (v := .bool true) rfl (by kernel_rfl) (by kernel_rfl) (by kernel_rfl) (fun _ _ _ h => h) (.inl ⟨by rfl, fun W1 h1 => by go_simp⟩) hW ?_
  try simp only [Act.put, List.setIfInBounds_toArray, List.set_cons_zero, List.set_cons_succ]
  refine wpAnyH_take (i := 13) (oi := ⟨some 30, _, _, _, _, _⟩) (v := .bool true) rfl (by kernel_rfl) (by kernel_rfl) (by kernel_rfl) (fun _ _ _ h => h) (.inl ⟨by rfl, fun W1 h1 => by go_simp⟩) hW ?_
  try simp only [Act.put, List.setIfInBounds_toArray, List.set_cons_zero, List.set_cons_succ]
  refine wpAnyH_take (i := 14) (oi := ⟨some 31, _, _, _, _, _⟩) (v := .pointer (some ⟨g2 + 1, 1, none⟩)) rfl (by kernel_rfl) (by kernel_rfl) (by kernel_rfl) (fun _ _ _ h => h) (.inl ⟨by rfl, fun W1 h1 => by go_simp⟩) hW ?_
  try simp only [Act.put, List.setIfInBounds_toArray, List.set_cons_zero, List.set_cons_succ]
  refine wpAnyH_take (i := 15) (oi := ⟨some 32, _, _, _, _, _⟩) (v := .slice (some ⟨bk, ok, none⟩) n1 c1) rfl (by kernel_rfl) (by kernel_rfl) (by kernel_rfl) (fun _ _ _ h => h) (.inl ⟨by rfl, fun W1 h1 => by have h2 := (Below.cell (p := ⟨g2 + 1, 1, none⟩) h1 h39).trans N1.out; clear h1; go_simp⟩) hW ?_
  try simp only [Act.put, List.setIfInBounds_toArray, List.set_cons_zero, List.set_cons_succ]
  refine wpAnyH_take (i := 16) (oi := ⟨some 33, _, _, _, _, _⟩) (v := .pointer (some ⟨bk, ok, none⟩)) rfl (by kernel_rfl) (by kernel_rfl) (by kernel_rfl) (fun _ _ _ h => h) (.inl ⟨by rfl, fun W1 h1 => by have hne0 : ¬ n1 = 0 := (by omega); go_simp⟩) hW ?_
  try simp only [Act.put, List.setIfInBounds_toArray, List.set_cons_zero, List.set_cons_succ]
  refine wpAnyH_take (i := 17) (oi := ⟨some 34, _, _, _, _, _⟩) (v := .slice Af m0 cf) rfl (by kernel_rfl) (by kernel_rfl) (by kernel_rfl) (fun _ _ _ h => h) (.inl ⟨by rfl, fun W1 h1 => by have h2 := (Below.cell (p := ⟨bk, ok, none⟩) h1 hbk).trans KF0.out; clear h1; go_simp⟩) hW ?_
  try simp only [Act.put, List.setIfInBounds_toArray, List.set_cons_zero, List.set_cons_succ]
  refine wpAnyH_take (i := 18) (oi := ⟨some 35, _, _, _, _, _⟩) (v := .string S1) rfl (by kernel_rfl) (by kernel_rfl) (by kernel_rfl) (fun _ _ _ h => h) (.inl ⟨by rfl, fun W1 h1 => by have hcv := V1.out W1 h1; clear h1; go_simp⟩) hW ?_
  try simp only [Act.put, List.setIfInBounds_toArray, List.set_cons_zero, List.set_cons_succ]
  refine wpAnyH_take (i := 19) (oi := ⟨some 36, _, _, _, _, _⟩) (v := .pointer (some ⟨g2, 38, none⟩)) rfl (by kernel_rfl) (by kernel_rfl) (by kernel_rfl) (fun _ _ _ h => h) (.inl ⟨by rfl, fun W1 h1 => by go_simp⟩) hW ?_
  try simp only [Act.put, List.setIfInBounds_toArray, List.set_cons_zero, List.set_cons_succ]
  refine wpAnyH_take (i := 20) (oi := ⟨some 37, _, _, _, _, _⟩) (v := tf) rfl (by kernel_rfl) (by kernel_rfl) (by kernel_rfl) (fun _ _ _ h => h) (.inl ⟨by rfl, fun W1 h1 => by have h2 := (Below.cell (p := ⟨g2, 38, none⟩) h1 h29).trans K3.out; clear h1; go_simp⟩) hW ?_
  try simp only [Act.put, List.setIfInBounds_toArray, List.set_cons_zero, List.set_cons_succ]
  refine wpAnyH_take (i := 21) (oi := ⟨some 38, _, _, _, _, _⟩) (v := .string S2) rfl (by kernel_rfl) (by kernel_rfl) (by kernel_rfl) (fun _ _ _ h => h) (.inl ⟨by rfl, fun W1 h1 => by have hcv := V2.out W1 h1; clear h1; go_simp⟩) hW ?_
  try simp only [Act.put, List.setIfInBounds_toArray, List.set_cons_zero, List.set_cons_succ]
  refine wpAnyH_take (i := 22) (oi := ⟨some 39, _, _, _, _, _⟩) (v := .bool true) rfl (by kernel_rfl) (by kernel_rfl) (by kernel_rfl) (fun _ _ _ h => h) (.inl ⟨by rfl, fun W1 h1 => by go_simp⟩) hW ?_
  try simp only [Act.put, List.setIfInBounds_toArray, List.set_cons_zero, List.set_cons_succ]
  refine wpAnyH_take (i := 23) (oi := ⟨some 40, _, _, _, _, _⟩) (v := .bool true) rfl (by kernel_rfl) (by kernel_rfl) (by kernel_rfl) (fun _ _ _ h => h) (.inl ⟨by rfl, fun W1 h1 => by go_simp⟩) hW ?_
  try simp only [Act.put, List.setIfInBounds_toArray, List.set_cons_zero, List.set_cons_succ]
  refine wpAnyH_take (i := 24) (oi := ⟨some 41, _, _, _, _, _⟩) (v := .bool true) rfl (by kernel_rfl) (by kernel_rfl) (by kernel_rfl) (fun _ _ _ h => h) (.inl ⟨by rfl, fun W1 h1 => by go_simp⟩) hW ?_
  try simp only [Act.put, List.setIfInBounds_toArray, List.set_cons_zero, List.set_cons_succ]
  refine wpAnyH_take (i := 25) (oi := ⟨some 42, _, _, _, _, _⟩) (v := .pointer (some ⟨g2, 40, none⟩)) rfl (by kernel_rfl) (by kernel_rfl) (by kernel_rfl) (fun _ _ _ h => h) (.inl ⟨by rfl, fun W1 h1 => by go_simp⟩) hW ?_
  try simp only [Act.put, List.setIfInBounds_toArray, List.set_cons_zero, List.set_cons_succ]
  refine wpAnyH_take (i := 26) (oi := ⟨some 43, _, _, _, _, _⟩) (v := .bool true) rfl (by kernel_rfl) (by kernel_rfl) (by kernel_rfl) (fun _ _ _ h => h) (.inl ⟨by rfl, fun W1 h1 => by have h2 := (Below.cell (p := ⟨g2, 40, none⟩) h1 h29).trans K5.out; clear h1; go_simp⟩) hW ?_
  try simp only [Act.put, List.setIfInBounds_toArray, List.set_cons_zero, List.set_cons_succ]
  refine wpAnyH_take (i := 27) (oi := ⟨some 44, _, _, _, _, _⟩) (v := .bool false) rfl (by kernel_rfl) (by kernel_rfl) (by kernel_rfl) (fun _ _ _ h => h) (.inl ⟨by rfl, fun W1 h1 => by go_simp⟩) hW ?_
  try simp only [Act.put, List.setIfInBounds_toArray, List.set_cons_zero, List.set_cons_succ]
  refine wpAnyH_take (i := 28) (oi := ⟨some 45, _, _, _, _, _⟩) (v := .bool false) rfl (by kernel_rfl) (by kernel_rfl) (by kernel_rfl) (fun _ _ _ h => h) (.inl ⟨by rfl, fun W1 h1 => by go_simp⟩) hW ?_
  try simp only [Act.put, List.setIfInBounds_toArray, List.set_cons_zero, List.set_cons_succ]
  refine wpAnyH_take (i := 29) (oi := ⟨some 46, _, _, _, _, _⟩) (v := .slice Al mL cL) rfl (by kernel_rfl) (by kernel_rfl) (by kernel_rfl) (fun _ _ _ h => h) (.inl ⟨by rfl, fun W1 h1 => by go_simp⟩) hW ?_
  try simp only [Act.put, List.setIfInBounds_toArray, List.set_cons_zero, List.set_cons_succ]
  refine wpAnyH_take (i := 30) (oi := ⟨some 47, _, _, _, _, _⟩) (v := .string S3) rfl (by kernel_rfl) (by kernel_rfl) (by kernel_rfl) (fun _ _ _ h => h) (.inl ⟨by rfl, fun W1 h1 => by have hcv := V3.out W1 h1; clear h1; go_simp⟩) hW ?_
  try simp only [Act.put, List.setIfInBounds_toArray, List.set_cons_zero, List.set_cons_succ]
  refine wpAnyH_take (i := 31) (oi := ⟨some 48, _, _, _, _, _⟩) (v := .pointer (some ⟨g2, 39, none⟩)) rfl (by kernel_rfl) (by kernel_rfl) (by kernel_rfl) (fun _ _ _ h => h) (.inl ⟨by rfl, fun W1 h1 => by go_simp⟩) hW ?_
  try simp only [Act.put, List.setIfInBounds_toArray, List.set_cons_zero, List.set_cons_succ]
  refine wpAnyH_take (i := 32) (oi := ⟨some 49, _, _, _, _, _⟩) (v := tb) rfl (by kernel_rfl) (by kernel_rfl) (by kernel_rfl) (fun _ _ _ h => h) (.inl ⟨by rfl, fun W1 h1 => by have h2 := (Below.cell (p := ⟨g2, 39, none⟩) h1 h29).trans K4.out; clear h1; go_simp⟩) hW ?_
  try simp only [Act.put, List.setIfInBounds_toArray, List.set_cons_zero, List.set_cons_succ]
  refine wpAnyH_take (i := 33) (oi := ⟨some 50, _, _, _, _, _⟩) (v := .string S4) rfl (by kernel_rfl) (by kernel_rfl) (by kernel_rfl) (fun _ _ _ h => h) (.inl ⟨by rfl, fun W1 h1 => by have hcv := V4.out W1 h1; clear h1; go_simp⟩) hW ?_
  try simp only [Act.put, List.setIfInBounds_toArray, List.set_cons_zero, List.set_cons_succ]
  refine wpAnyH_take (i := 34) (oi := ⟨some 51, _, _, _, _, _⟩) (v := .bool false) rfl (by kernel_rfl) (by kernel_rfl) (by kernel_rfl) (fun _ _ _ h => h) (.inl ⟨by rfl, fun W1 h1 => by go_simp⟩) hW ?_
  try simp only [Act.put, List.setIfInBounds_toArray, List.set_cons_zero, List.set_cons_succ]
  refine wpAnyH_take (i := 35) (oi := ⟨some 52, _, _, _, _, _⟩) (v := .bool false) rfl (by kernel_rfl) (by kernel_rfl) (by kernel_rfl) (fun _ _ _ h => h) (.inl ⟨by rfl, fun W1 h1 => by go_simp⟩) hW ?_
  try simp only [Act.put, List.setIfInBounds_toArray, List.set_cons_zero, List.set_cons_succ]
  refine wpAnyH_take (i := 36) (oi := ⟨some 53, _, _, _, _, _⟩) (v := .bool false) rfl (by kernel_rfl) (by kernel_rfl) (by kernel_rfl) (fun _ _ _ h => h) (.inl ⟨by rfl, fun W1 h1 => by go_simp⟩) hW ?_
  try simp only [Act.put, List.setIfInBounds_toArray, List.set_cons_zero, List.set_cons_succ]
  refine wpAnyH_take (i := 37) (oi := ⟨some 4, _, _, _, _, _⟩) (v := .bool false) rfl (by kernel_rfl) (by kernel_rfl) (by kernel_rfl) (fun _ _ _ h => h) (.inl ⟨by rfl, fun W1 h1 => by go_simp⟩) hW ?_
  try simp only [Act.put, List.setIfInBounds_toArray, List.set_cons_zero, List.set_cons_succ]
  refine wpAnyH_done (by kernel_rfl) ?_ _
  have HW := Aside0.mk hW
  clear hW WDB
  go_wp2
  rw [HP.out]
  exact ⟨by rw [HFB.out]; rfl, HB9.out.trans (HW.out.mono HB9.out.size)⟩
end Go.Proofs.YtchhdafgmifhdaaGreat.FitK
namespace Go.Proofs.YtchhdafgmifhdaaGreat.PlcK
open Go.RowKit Go.Proofs.YtchhdafgmifhdaaGreat.B8 Go.Proofs.YtchhdafgmifhdaaGreat.Agg Go.Proofs.YtchhdafgmifhdaaGreat.CodL Go.Proofs.YtchhdafgmifhdaaGreat.CodA Go.Proofs.YtchhdafgmifhdaaGreat.CodB Go.Proofs.YtchhdafgmifhdaaGreat.CrcL Go.Proofs.YtchhdafgmifhdaaGreat.CrcA Go.Proofs.YtchhdafgmifhdaaGreat.CrcB Go.Proofs.YtchhdafgmifhdaaGreat.PVerifyForms Go.Proofs.YtchhdafgmifhdaaGreatW.PrintWords Go.Proofs.YtchhdafgmifhdaaGreatW.PrintLast Go.Proofs.YtchhdafgmifhdaaGreatW.PrintMore Go.Proofs.YtchhdafgmifhdaaGreat.CatL Go.Proofs.YtchhdafgmifhdaaGreat.PtrA Go.Proofs.YtchhdafgmifhdaaGreat.PtrB Go.Proofs.YtchhdafgmifhdaaGreat.PtrE Go.Proofs.YtchhdafgmifhdaaGreat.OfA Go.Proofs.YtchhdafgmifhdaaGreat.ExtA Go.Proofs.YtchhdafgmifhdaaGreat.KpA Go.Proofs.YtchhdafgmifhdaaGreat.LeaA Go.Proofs.YtchhdafgmifhdaaGreat.LeaC Go.Proofs.YtchhdafgmifhdaaGreat.LeaD Go.Proofs.YtchhdafgmifhdaaGreat.LeaJ Go.Proofs.YtchhdafgmifhdaaGreat.LeaO Go.Proofs.YtchhdafgmifhdaaGreat.FitK
set_option linter.unusedVariables false
set_option linter.unusedSimpArgs false
theorem encL_len {x : Pl} (h : Ok x.at_) : (encL x).toList.length = 41 := by rw [Array.length_toList, encL_size h]
theorem encL_ones (x : Pl) : ∀ u ∈ (encL x).toList, u.oneCell' = true := fun u hu => (Array.all_eq_true_iff_forall_mem.1 (encL_one x)) u (by simpa using hu)
/-- A place, as a kind. -/
def kPl : Kd Pl where
  sz := 41
  E := []
  K := fun _ x cs => cs = (encL x).toList ∧ Ok x.at_
  M := fun _ _ _ x cs => cs = (encL x).toList ∧ Ok x.at_
  K_len := fun h => by rw [h.1]; exact encL_len h.2
  K_one := fun h u hu => by rw [h.1] at hu; exact encL_ones _ u hu
  K_below := fun _ h => h
  K_of_M := fun h => h
  M_mono := fun _ h => h
  M_bound := fun h => h
  M_move := fun _ h => h
  M_lower := fun _ h => h
theorem size167 : (Tryz.prog.info? 167).map (·.size) = some 41 := by kernel_rfl
theorem inf167 : ((Tryz.prog.info? 167).bind (·.zero)).bind (fun z => match z with | .agg cs => some (cs.size, cs.all (·.oneCell')) | _ => none) = some (41, true) := by kernel_rfl
theorem zero167 : ∃ z : Array Value, z.size = 41 ∧ z.all (·.oneCell') = true ∧ ∀ W, (zeroValue 167).run Tryz.prog W = .ok (.agg z) W := by
  have h := inf167
  obtain ⟨z, hz, h2⟩ := Option.bind_eq_some_iff.1 h
  obtain ⟨i, hi, hz0⟩ := Option.bind_eq_some_iff.1 hz
  cases z with
  | agg cs =>
    simp only [Option.some.injEq, Prod.mk.injEq] at h2
    exact ⟨cs, h2.1, h2.2, fun W => by simp [zeroValue, typeInfo, hi, hz0, Result.andThen]⟩
  | _ => cases h2
theorem info167a : (Tryz.prog.info? 167).map (fun i => (i.zero.map (fun z => z.cells.size), i.size, i.bytes)) = some (some 41, 41, 136) := by kernel_rfl
theorem info167 : ∃ z : Value, (Tryz.prog.info? 167).map (fun i => (i.zero, i.size, i.bytes)) = some (some z, 41, 136) ∧ z.cells.size = 41 := by
  obtain ⟨i, hi, h⟩ := Option.map_eq_some_iff.1 info167a
  simp only [Prod.mk.injEq] at h
  obtain ⟨h1, h2, h3⟩ := h
  obtain ⟨z, hz, hs⟩ := Option.map_eq_some_iff.1 h1
  exact ⟨z, by rw [hi, Option.map_some, hz, h2, h3], hs⟩
set_option maxRecDepth 100000 in
theorem run_one41 (cs : Array Value) (h : cs.size = 41) (W : World) : (Instr.buildSlice 168 1 #[(0, .agg cs)]).run Tryz.prog W = .ok (.slice (some ⟨W.heap.size, 0, none⟩) 1 1) (W.alloc (.cells cs 167)) := by
  rcases cs with ⟨l⟩
  rcases l with _ | ⟨c0, l⟩; · simp at h
  rcases l with _ | ⟨c1, l⟩; · simp at h
  rcases l with _ | ⟨c2, l⟩; · simp at h
  rcases l with _ | ⟨c3, l⟩; · simp at h
  rcases l with _ | ⟨c4, l⟩; · simp at h
  rcases l with _ | ⟨c5, l⟩; · simp at h
  rcases l with _ | ⟨c6, l⟩; · simp at h
  rcases l with _ | ⟨c7, l⟩; · simp at h
  rcases l with _ | ⟨c8, l⟩; · simp at h
  rcases l with _ | ⟨c9, l⟩; · simp at h
  rcases l with _ | ⟨c10, l⟩; · simp at h
  rcases l with _ | ⟨c11, l⟩; · simp at h
  rcases l with _ | ⟨c12, l⟩; · simp at h
  rcases l with _ | ⟨c13, l⟩; · simp at h
  rcases l with _ | ⟨c14, l⟩; · simp at h
  rcases l with _ | ⟨c15, l⟩; · simp at h
  rcases l with _ | ⟨c16, l⟩; · simp at h
  rcases l with _ | ⟨c17, l⟩; · simp at h
  rcases l with _ | ⟨c18, l⟩; · simp at h
  rcases l with _ | ⟨c19, l⟩; · simp at h
  rcases l with _ | ⟨c20, l⟩; · simp at h
  rcases l with _ | ⟨c21, l⟩; · simp at h
  rcases l with _ | ⟨c22, l⟩; · simp at h
  rcases l with _ | ⟨c23, l⟩; · simp at h
  rcases l with _ | ⟨c24, l⟩; · simp at h
  rcases l with _ | ⟨c25, l⟩; · simp at h
  rcases l with _ | ⟨c26, l⟩; · simp at h
  rcases l with _ | ⟨c27, l⟩; · simp at h
  rcases l with _ | ⟨c28, l⟩; · simp at h
  rcases l with _ | ⟨c29, l⟩; · simp at h
  rcases l with _ | ⟨c30, l⟩; · simp at h
  rcases l with _ | ⟨c31, l⟩; · simp at h
  rcases l with _ | ⟨c32, l⟩; · simp at h
  rcases l with _ | ⟨c33, l⟩; · simp at h
  rcases l with _ | ⟨c34, l⟩; · simp at h
  rcases l with _ | ⟨c35, l⟩; · simp at h
  rcases l with _ | ⟨c36, l⟩; · simp at h
  rcases l with _ | ⟨c37, l⟩; · simp at h
  rcases l with _ | ⟨c38, l⟩; · simp at h
  rcases l with _ | ⟨c39, l⟩; · simp at h
  rcases l with _ | ⟨c40, l⟩; · simp at h
  rcases l with _ | ⟨c41, l⟩
  · kernel_rfl
  · simp at h
set_option maxRecDepth 100000 in
theorem built167 (cs : Array Value) (h : cs.size = 36) (lv bi : Int) (f b : Tri) (en : Bool) : Tryz.prog.built 167 [(0, .agg cs), (1, .int .i64 lv), (2, .int .i64 bi), (3, encT f), (4, encT b), (5, .bool en)] = some (cs ++ #[.int .i64 lv, .int .i64 bi, encT f, encT b, .bool en]) := by
  obtain ⟨fA, fn, fc⟩ := f
  obtain ⟨bA, bn, bc⟩ := b
  rcases cs with ⟨l⟩
  rcases l with _ | ⟨c0, l⟩; · simp at h
  rcases l with _ | ⟨c1, l⟩; · simp at h
  rcases l with _ | ⟨c2, l⟩; · simp at h
  rcases l with _ | ⟨c3, l⟩; · simp at h
  rcases l with _ | ⟨c4, l⟩; · simp at h
  rcases l with _ | ⟨c5, l⟩; · simp at h
  rcases l with _ | ⟨c6, l⟩; · simp at h
  rcases l with _ | ⟨c7, l⟩; · simp at h
  rcases l with _ | ⟨c8, l⟩; · simp at h
  rcases l with _ | ⟨c9, l⟩; · simp at h
  rcases l with _ | ⟨c10, l⟩; · simp at h
  rcases l with _ | ⟨c11, l⟩; · simp at h
  rcases l with _ | ⟨c12, l⟩; · simp at h
  rcases l with _ | ⟨c13, l⟩; · simp at h
  rcases l with _ | ⟨c14, l⟩; · simp at h
  rcases l with _ | ⟨c15, l⟩; · simp at h
  rcases l with _ | ⟨c16, l⟩; · simp at h
  rcases l with _ | ⟨c17, l⟩; · simp at h
  rcases l with _ | ⟨c18, l⟩; · simp at h
  rcases l with _ | ⟨c19, l⟩; · simp at h
  rcases l with _ | ⟨c20, l⟩; · simp at h
  rcases l with _ | ⟨c21, l⟩; · simp at h
  rcases l with _ | ⟨c22, l⟩; · simp at h
  rcases l with _ | ⟨c23, l⟩; · simp at h
  rcases l with _ | ⟨c24, l⟩; · simp at h
  rcases l with _ | ⟨c25, l⟩; · simp at h
  rcases l with _ | ⟨c26, l⟩; · simp at h
  rcases l with _ | ⟨c27, l⟩; · simp at h
  rcases l with _ | ⟨c28, l⟩; · simp at h
  rcases l with _ | ⟨c29, l⟩; · simp at h
  rcases l with _ | ⟨c30, l⟩; · simp at h
  rcases l with _ | ⟨c31, l⟩; · simp at h
  rcases l with _ | ⟨c32, l⟩; · simp at h
  rcases l with _ | ⟨c33, l⟩; · simp at h
  rcases l with _ | ⟨c34, l⟩; · simp at h
  rcases l with _ | ⟨c35, l⟩; · simp at h
  rcases l with _ | ⟨c36, l⟩
  · kernel_rfl
  · simp at h
set_option maxRecDepth 100000 in
theorem built167r (cs : Array Value) (h : cs.size = 36) : Tryz.prog.built 167 [(0, .agg cs), (1, .int .i64 (-1))] = some (cs ++ #[.int .i64 (-1), .int .i64 0, .slice none 0 0, .slice none 0 0, .bool false]) := by
  rcases cs with ⟨l⟩
  rcases l with _ | ⟨c0, l⟩; · simp at h
  rcases l with _ | ⟨c1, l⟩; · simp at h
  rcases l with _ | ⟨c2, l⟩; · simp at h
  rcases l with _ | ⟨c3, l⟩; · simp at h
  rcases l with _ | ⟨c4, l⟩; · simp at h
  rcases l with _ | ⟨c5, l⟩; · simp at h
  rcases l with _ | ⟨c6, l⟩; · simp at h
  rcases l with _ | ⟨c7, l⟩; · simp at h
  rcases l with _ | ⟨c8, l⟩; · simp at h
  rcases l with _ | ⟨c9, l⟩; · simp at h
  rcases l with _ | ⟨c10, l⟩; · simp at h
  rcases l with _ | ⟨c11, l⟩; · simp at h
  rcases l with _ | ⟨c12, l⟩; · simp at h
  rcases l with _ | ⟨c13, l⟩; · simp at h
  rcases l with _ | ⟨c14, l⟩; · simp at h
  rcases l with _ | ⟨c15, l⟩; · simp at h
  rcases l with _ | ⟨c16, l⟩; · simp at h
  rcases l with _ | ⟨c17, l⟩; · simp at h
  rcases l with _ | ⟨c18, l⟩; · simp at h
  rcases l with _ | ⟨c19, l⟩; · simp at h
  rcases l with _ | ⟨c20, l⟩; · simp at h
  rcases l with _ | ⟨c21, l⟩; · simp at h
  rcases l with _ | ⟨c22, l⟩; · simp at h
  rcases l with _ | ⟨c23, l⟩; · simp at h
  rcases l with _ | ⟨c24, l⟩; · simp at h
  rcases l with _ | ⟨c25, l⟩; · simp at h
  rcases l with _ | ⟨c26, l⟩; · simp at h
  rcases l with _ | ⟨c27, l⟩; · simp at h
  rcases l with _ | ⟨c28, l⟩; · simp at h
  rcases l with _ | ⟨c29, l⟩; · simp at h
  rcases l with _ | ⟨c30, l⟩; · simp at h
  rcases l with _ | ⟨c31, l⟩; · simp at h
  rcases l with _ | ⟨c32, l⟩; · simp at h
  rcases l with _ | ⟨c33, l⟩; · simp at h
  rcases l with _ | ⟨c34, l⟩; · simp at h
  rcases l with _ | ⟨c35, l⟩; · simp at h
  rcases l with _ | ⟨c36, l⟩
  · kernel_rfl
  · simp at h
theorem yields_build {P : Program} {ops : Array Oper} {S : World → Prop} {op : Oper} {a : Act} (hw : Region.wanted op (yielded ops a.tmps) = true) (t : TypeId) (parts : Array (Nat × Operand)) (ho : op.op = .build t parts) (cs : Array Value)
    (hc : P.built t (parts.map fun (i, x) => (i, a.eval x)).toList = some cs) : YieldsIf P ops S op (.agg cs) a :=
  .inl ⟨hw, fun w hS => by
    have := run_build (P := P) w t (parts.map fun (i, x) => (i, a.eval x)) cs hc
    unfold execOp
    simp only [ho, Sem.run_bind, Sem.run_pure, Result.andThen_ok, this]⟩
theorem yields_mid {P : Program} {ops : Array Oper} {S : World → Prop} {op : Oper} {a : Act} (hw : Region.wanted op (yielded ops a.tmps) = true) (ty : TypeId) (x : Operand) (ho : op.op = .load ty x)
    (b o : Nat) (hx : a.eval x = .pointer (some ⟨b, o, none⟩)) (cs : Array Value) (d : TypeDesc) (hS : ∀ w, S w → w.rangeAt b o cs.toList)
    (hu : P.underlying ty = some d) (hd : d.isRow = true) (hi : (P.info? ty).map (·.size) = some cs.size) : YieldsIf P ops S op (.agg cs) a := by
  have := yieldsIf_load_mid (P := P) (S := S) hw ty x ho b o hx cs.toList d hS hu hd (by rw [hi, Array.length_toList])
  simpa using this
section
variable {ops : Array Oper} {o : Oper} {rest : List Oper} {a : Act} {Q : Exit → Act → World → Prop} {K : Act → World → Prop}
theorem one_L {w : World} (hgd : o.guard = none) (x : Operand) (ho : o.op = .buildSlice 168 1 #[(0, x)]) (cs : Array Value) (hk : cs.size = 41) (hx : a.eval x = .agg cs)
    (h : wpList Tryz.prog ops Q rest (a.put o.dst (.slice (some ⟨w.heap.size, 0, none⟩) 1 1)) (w.alloc (.cells cs 167))) : wpList Tryz.prog ops Q (o :: rest) a w :=
  wpList_plain hgd fun _ hK => by
    unfold Oper.wp execOp
    have hm : (#[(0, x)] : Array (Nat × Operand)).map (fun (i, x) => (i, a.eval x)) = #[(0, .agg cs)] := by simp [hx]
    simp only [ho]
    rw [hm]
    simp only [Sem.run_bind, Sem.run_pure, Result.andThen_ok, run_one41 cs hk w]
    exact hK _ _ h
/-- append(out, place) -/
theorem append_L {w0 W W' : World} (base : Nat) (hgd : o.guard = none) (ok : Nat → Prop) (s x : Operand) (ho : o.op = .call { callee := .builtin .append, args := #[s, x], argTypes := #[168, 168] })
    (v : Value) (xs : List Pl) (p : Pl) (cs : Array Value) (hcs : cs = encL p) (hk : Ok p.at_) (hs : a.eval s = v) (hW : W' = W.alloc (.cells cs 167)) (hx : a.eval x = .slice (some ⟨W.heap.size, 0, none⟩) 1 1)
    (HO : Kd.R kPl 167 W base ok v xs) (hfr : ∀ k, W.heap.size ≤ k → ok k) (HB : Below base w0 W) (hbase : base ≤ W.heap.size) (hl : xs.length ≤ 100000)
    (h : ∀ v1 w1, Kd.R kPl 167 w1 base ok v1 (xs ++ [p]) → Below base w0 w1 → W.grownBy w1 v.ownBlock → (v1.ownBlock = v.ownBlock ∨ ∃ b, v1.ownBlock = some b ∧ W.heap.size ≤ b) → wpList Tryz.prog ops Q rest (a.put o.dst v1) w1) :
    wpList Tryz.prog ops Q (o :: rest) a W' := by
  subst hW hcs
  obtain ⟨z, hz, hz1⟩ := info167
  have := Kd.R_append (P := Tryz.prog) (ops := ops) (rest := rest) (a := a) (Q := Q) kPl (w0 := w0) base hgd s x 168 167 z 136 ho Tryz.underlying168 hz hz1 (by decide) (by decide) v xs p (encL p).toList ok (fun _ => False) hs hx ⟨rfl, hk⟩ (fun _ h => h.elim) hfr HO HB hbase (by omega) h
  simp only [Array.toArray_toList] at this
  exact this
/-- append(todo, places...) -/
theorem appendRow_L {w0 W : World} (base : Nat) (hgd : o.guard = none) (ok : Nat → Prop) (s x : Operand) (ho : o.op = .call { callee := .builtin .append, args := #[s, x], argTypes := #[168, 168] })
    (v : Value) (xs ys : List Pl) (A : Option Addr) (m c : Nat) (hs : a.eval s = v) (hx : a.eval x = .slice A m c)
    (HO : Kd.R kPl 167 W base ok v xs) (HR : Kd.C kPl W A m ys) (hfr : ∀ k, W.heap.size ≤ k → ok k) (HB : Below base w0 W) (hbase : base ≤ W.heap.size) (hl : xs.length + m ≤ 1000000000)
    (h : ∀ v1 w1, Kd.R kPl 167 w1 base ok v1 (xs ++ ys) → Below base w0 w1 → W.grownBy w1 v.ownBlock → (v1.ownBlock = v.ownBlock ∨ ∃ b, v1.ownBlock = some b ∧ W.heap.size ≤ b) → wpList Tryz.prog ops Q rest (a.put o.dst v1) w1) :
    wpList Tryz.prog ops Q (o :: rest) a W := by
  obtain ⟨z, hz, hz1⟩ := info167
  exact Kd.R_append_rows (P := Tryz.prog) (ops := ops) (rest := rest) (a := a) (Q := Q) kPl (w0 := w0) base hgd s x 168 167 z 136 ho Tryz.underlying168 hz hz1 (by decide) (by decide) v xs ys A m c ok (fun _ => False) hs hx HO HR (fun _ _ h => h) (fun _ h => h.elim) hfr HB hbase (by omega) h
end
end Go.Proofs.YtchhdafgmifhdaaGreat.PlcK
namespace Go.Proofs.YtchhdafgmifhdaaGreat.KidK
open Go.RowKit Go.Proofs.YtchhdafgmifhdaaGreat.B8 Go.Proofs.YtchhdafgmifhdaaGreat.Agg Go.Proofs.YtchhdafgmifhdaaGreat.CodL Go.Proofs.YtchhdafgmifhdaaGreat.CodA Go.Proofs.YtchhdafgmifhdaaGreat.CodB Go.Proofs.YtchhdafgmifhdaaGreat.CrcL Go.Proofs.YtchhdafgmifhdaaGreat.CrcA Go.Proofs.YtchhdafgmifhdaaGreat.CrcB Go.Proofs.YtchhdafgmifhdaaGreat.PVerifyForms Go.Proofs.YtchhdafgmifhdaaGreatW.PrintWords Go.Proofs.YtchhdafgmifhdaaGreatW.PrintLast Go.Proofs.YtchhdafgmifhdaaGreatW.PrintMore Go.Proofs.YtchhdafgmifhdaaGreat.CatL Go.Proofs.YtchhdafgmifhdaaGreat.PtrA Go.Proofs.YtchhdafgmifhdaaGreat.PtrB Go.Proofs.YtchhdafgmifhdaaGreat.PtrE Go.Proofs.YtchhdafgmifhdaaGreat.OfA Go.Proofs.YtchhdafgmifhdaaGreat.ExtA Go.Proofs.YtchhdafgmifhdaaGreat.KpA Go.Proofs.YtchhdafgmifhdaaGreat.LeaA Go.Proofs.YtchhdafgmifhdaaGreat.LeaC Go.Proofs.YtchhdafgmifhdaaGreat.LeaD Go.Proofs.YtchhdafgmifhdaaGreat.LeaJ Go.Proofs.YtchhdafgmifhdaaGreat.LeaO Go.Proofs.YtchhdafgmifhdaaGreat.FitK Go.Proofs.YtchhdafgmifhdaaGreat.PlcK Go.Proofs.YtchhdafgmifhdaaGreat.AlcD Go.Proofs.YtchhdafgmifhdaaGreat.DskC Go.Proofs.YtchhdafgmifhdaaGreat.PoolB
set_option linter.unusedVariables false
set_option linter.unusedSimpArgs false
def kidP (x : Pl) (n : Nd) (ts : List Tri) (i : Nat) : Pl :=
  ⟨n.kids.getD i zeroP, (n.lvl : Int) - 1, x.at_.birth, ts.getD i Tri.zero, if i + 1 < n.keys.length then ts.getD (i + 1) Tri.zero else x.be, if i + 1 < n.keys.length then true else x.en⟩
/-- The places of the children from the last one down to the j-th. -/
def downL (x : Pl) (n : Nd) (ts : List Tri) (j : Nat) : List Pl := (List.range (n.kids.length - j)).map fun q => kidP x n ts (n.kids.length - 1 - q)
theorem downL_step (x : Pl) (n : Nd) (ts : List Tri) (i : Nat) (h : i < n.kids.length) : downL x n ts i = downL x n ts (i + 1) ++ [kidP x n ts i] := by
  unfold downL
  rw [show n.kids.length - i = (n.kids.length - (i + 1)) + 1 by omega, List.range_succ, List.map_append]
  congr 1
  simp only [List.map_cons, List.map_nil]
  rw [show n.kids.length - 1 - (n.kids.length - (i + 1)) = i by omega]
theorem downL_top (x : Pl) (n : Nd) (ts : List Tri) : downL x n ts n.kids.length = [] := by simp [downL]
theorem set2 (cp : Array Value) (h : cp.size = 36) (a b c d e d' e' : Value) : ((cp ++ #[a, b, c, d, e]).setIfInBounds 39 d').setIfInBounds 40 e' = cp ++ #[a, b, c, d', e'] := by
  rcases cp with ⟨l⟩
  have hl : l.length = 36 := h
  simp [List.set_append, hl]
def KidOut (w : World) (l : List Pl) (e : Ending) (w' : World) : Prop := ∃ v, e = .returned v ∧ Kd.R kPl 167 w' w.heap.size (fun _ => True) v l ∧ Below w.heap.size w w'
set_option maxRecDepth 100000 in
set_option maxHeartbeats 8000000 in
theorem kids86 (x : Pl) (n : Nd) (s : Ns) (ts : List Tri) (w : World) (hok : Ok x.at_) (hv : NT w n s ts) (hn : Shape n) :
    Calls Tryz.prog 86 #[.agg (encL x), .agg (encN n s)] w (KidOut w (downL x n ts 0)) := by
  obtain ⟨P, hP⟩ : ∃ P : Ending → World → Prop, P = KidOut w (downL x n ts 0) := ⟨_, rfl⟩
  rw [← hP]
  have HP := Aside0.mk hP
  clear hP
  obtain ⟨cl, hcl⟩ : ∃ cs, cs = encL x := ⟨_, rfl⟩
  obtain ⟨cn, hcn⟩ : ∃ cs, cs = encN n s := ⟨_, rfl⟩
  obtain ⟨n1, hn1⟩ : ∃ k, k = n.keys.length := ⟨_, rfl⟩
  obtain ⟨n3, hn3⟩ : ∃ k, k = n.kids.length := ⟨_, rfl⟩
  have hb2 : n1 ≤ 1000 := by rw [hn1]; exact hn.most
  have hb3 : n.lvl ≤ 12 := hn.lvl
  have h31 : n3 ≤ n1 ∧ (0 < n3 → n3 = n1) := by
    have hLi := hn.lists
    unfold Lists at hLi
    rw [hn3, hn1]
    split at hLi <;> omega
  obtain ⟨lv, hlv⟩ : ∃ k, k = n.lvl := ⟨_, rfl⟩
  obtain ⟨A1, c1, A2, c2, A3, c3⟩ := s
  obtain ⟨W9, hW9⟩ : ∃ W, W = (w.alloc (.cells cl 167)).alloc (.cells cn 39) := ⟨_, rfl⟩
  obtain ⟨g2, hg2⟩ : ∃ g, g = w.heap.size := ⟨_, rfl⟩
  have HB9 := Aside0.mk (show Below w.heap.size w W9 by rw [hW9]; exact below_alloc (below_alloc (Below.refl _ _) _) _)
  have hG2 : W9.heap[g2]? = some (.cells cl 167 (0, 0)) := by rw [hW9, hg2]; exact blk_alloc (blk_new w _) _
  have hG3 : W9.heap[g2 + 1]? = some (.cells cn 39 (0, 0)) := by rw [hW9, hg2]; have := blk_new (w.alloc (.cells cl 167)) (.cells cn 39); simpa using this
  have h29 : g2 < W9.heap.size := blk_lt hG2
  have h39 : g2 + 1 < W9.heap.size := blk_lt hG3
  have K0 := Aside0.mk (show W9.cell? ⟨g2, 1, none⟩ = some (.int .i64 x.at_.birth) by rw [cell_of_row _ _ 1 _ 167 (0, 0) hG2, hcl, encL_lo hok (by decide)]; exact (pc _ hok.len).c1)
  have K4 := Aside0.mk (show W9.cell? ⟨g2, 39, none⟩ = some (encT x.be) by rw [cell_of_row _ _ 39 _ 167 (0, 0) hG2, hcl, encL_hi hok 3]; rfl)
  have K5 := Aside0.mk (show W9.cell? ⟨g2, 40, none⟩ = some (.bool x.en) by rw [cell_of_row _ _ 40 _ 167 (0, 0) hG2, hcl, encL_hi hok 4]; rfl)
  have N0 := Aside0.mk (show W9.cell? ⟨g2 + 1, 0, none⟩ = some (.int .i64 (lv : Int)) by rw [cell_of_row _ _ 0 _ 39 (0, 0) hG3, hcn, hlv]; rfl)
  have N1 := Aside0.mk (show W9.cell? ⟨g2 + 1, 1, none⟩ = some (.slice A1 n1 c1) by rw [cell_of_row _ _ 1 _ 39 (0, 0) hG3, hcn, hn1]; rfl)
  have N3 := Aside0.mk (show W9.cell? ⟨g2 + 1, 3, none⟩ = some (.slice A3 n3 c3) by rw [cell_of_row _ _ 3 _ 39 (0, 0) hG3, hcn, hn3]; rfl)
  have HC1 := Aside0.mk (show Kd.C kT W9 A1 n1 ts by rw [hn1]; exact Kd.C_below hv.kt HB9.out)
  have HC3 := Aside0.mk (show Kd.C kP W9 A3 n3 n.kids by rw [hn3]; exact Kd.C_below hv.nv.kids HB9.out)
  obtain ⟨z, hz, hz1, hal⟩ := zero167
  have HZS := Aside0.mk (And.intro hz hz1)
  have HAL := Aside0.mk hal
  have HX := Aside0.mk (And.intro hn3 (And.intro hn1 (And.intro hlv (And.intro hok hg2))))
  obtain ⟨xa, hxa⟩ : ∃ k, k = x.at_.birth := ⟨_, rfl⟩
  obtain ⟨tb, htb⟩ : ∃ k, k = encT x.be := ⟨_, rfl⟩
  obtain ⟨xe, hxe⟩ : ∃ k, k = x.en := ⟨_, rfl⟩
  rw [← hxa] at K0
  rw [← htb] at K4
  rw [← hxe] at K5
  have HXX := Aside0.mk (And.intro hxa (And.intro htb hxe))
  have hlv12 : lv ≤ 12 := by omega
  rw [← hcl, ← hcn]
  clear hv hn hcl hcn hn1 hn3 hlv hok hG2 hG3 hb3 hz hz1 hal hxa htb hxe
  go_enter Tryz.func86, Tryz.ntmps86
  go_upto_region 2 with (fail)
  rw [← hg2, ← hW9]
  clear hg2 hW9
  have k3 := N3.out
  go_wp2_with fail
  clear k3
  go_loopw [5, 6] (fun v5 v6 wr => ∃ (j : Nat), v6 = .int .i64 ((j : Int) - 1) ∧ j ≤ n3 ∧ Aside0 (Kd.R kPl 167 wr W9.heap.size (fun _ => True) v5 (downL x n ts j) ∧ Below W9.heap.size W9 wr)) (fun _ v _ => (intOf v + 1).toNat)
  case atStart => exact ⟨n3, rfl, Nat.le_refl _, ⟨by rw [HX.out.1, downL_top]; exact Kd.R_nil _ _ _ _ _, Below.refl _ _⟩⟩
  case round =>
    obtain ⟨j, rfl, hj, HR⟩ := hrel
    rcases j with _ | i
    · have e0 : (((0 : Nat) : Int) - 1) = -1 := by omega
      rw [e0]
      go_wp2
      rw [HP.out]
      exact ⟨_, rfl, Kd.R_lower HR.out.1 HB9.out.size, HB9.out.trans (HR.out.2.mono HB9.out.size)⟩
    · have e1 : (((i + 1 : Nat) : Int) - 1) = (i : Int) := by omega
      rw [e1]
      have d0 : decide ((0 : Int) ≤ (i : Int)) = true := decide_eq_true (by omega)
      obtain ⟨A5, c5, rfl⟩ := Kd.R_slice HR.out.1
      generalize hn5 : (downL x n ts (i + 1)).length = n5 at *
      have HN5 := Aside0.mk hn5
      clear hn5 e1
      obtain ⟨bp, op, rfl, hbp, hpp⟩ := CP_at HC3.out (by omega)
      obtain ⟨bk, ok, rfl, hbk, hkk⟩ := C_at Tri.zero HC1.out (by omega)
      obtain ⟨hpo, hpr⟩ := hpp i (by omega)
      have hki := hkk i (by omega)
      obtain ⟨cp, hcp⟩ : ∃ c, c = encP (n.kids.getD i zeroP) := ⟨_, rfl⟩
      obtain ⟨ti, hti⟩ : ∃ c, c = ts.getD i Tri.zero := ⟨_, rfl⟩
      rw [← hcp] at hpr
      rw [← hti] at hki
      have HPI := Aside0.mk (And.intro hcp (And.intro hpo (And.intro hpr (And.intro hti (show cp.size = 36 by rw [hcp]; exact encP_size hpo.len)))))
      have HKI := Aside0.mk ((HR.out.2.cell (p := ⟨bk, ok + i, none⟩) hbk).trans hki)
      have HKK := Aside0.mk hkk
      obtain ⟨tiv, htiv⟩ : ∃ t, t = encT ti := ⟨_, rfl⟩
      rw [← htiv] at HKI
      have HTI := Aside0.mk htiv
      clear hpp hkk hki hcp hpo hpr hti htiv
      have M0 := Aside0.mk ((HR.out.2.cell (p := ⟨g2, 1, none⟩) h29).trans K0.out)
      have M4 := Aside0.mk ((HR.out.2.cell (p := ⟨g2, 39, none⟩) h29).trans K4.out)
      have M5 := Aside0.mk ((HR.out.2.cell (p := ⟨g2, 40, none⟩) h29).trans K5.out)
      have O0 := Aside0.mk ((HR.out.2.cell (p := ⟨g2 + 1, 0, none⟩) h39).trans N0.out)
      have O1 := Aside0.mk ((HR.out.2.cell (p := ⟨g2 + 1, 1, none⟩) h39).trans N1.out)
      have O3 := Aside0.mk ((HR.out.2.cell (p := ⟨g2 + 1, 3, none⟩) h39).trans N3.out)
      have r29 : g2 < wr.heap.size := Nat.lt_of_lt_of_le h29 HR.out.2.size
      have r39 : g2 + 1 < wr.heap.size := Nat.lt_of_lt_of_le h39 HR.out.2.size
      have rbk : bk < wr.heap.size := Nat.lt_of_lt_of_le hbk HR.out.2.size
      have HPR := Aside0.mk (show wr.rangeAt bp (op + i * 36) cp.toList from rangeAt_below HPI.out.2.2.1 HR.out.2 hbp)
      have rbp : bp < wr.heap.size := Nat.lt_of_lt_of_le hbp HR.out.2.size
      obtain ⟨r0, hr0⟩ : ∃ r, r = cp ++ #[.int .i64 ((lv : Int) - 1), .int .i64 xa, encT ti, tb, .bool xe] := ⟨_, rfl⟩
      have HR0 := Aside0.mk (show Tryz.prog.built 167 [(0, .agg cp), (1, .int .i64 ((lv : Int) - 1)), (2, .int .i64 xa), (3, tiv), (4, tb), (5, .bool xe)] = some r0 by
        rw [HXX.out.2.1, HTI.out, built167 cp HPI.out.2.2.2.2, hr0, HXX.out.2.1])
      have HRS := Aside0.mk (And.intro hr0 (And.intro (show r0.size = 41 by rw [hr0, Array.size_append, HPI.out.2.2.2.2]; rfl) (show r0.all (·.oneCell') = true by
        rw [hr0, HPI.out.1, HXX.out.2.1]
        exact encL_one ⟨n.kids.getD i zeroP, (lv : Int) - 1, xa, ti, x.be, xe⟩)))
      have hwl : IntKind.i64.wrap ((lv : Int) - 1) = (lv : Int) - 1 := i64_small (by omega) (by omega)
      clear hr0 d0
      have d0 : decide ((0 : Int) ≤ (i : Int)) = true := decide_eq_true (by omega)
      have hi3 : i < n3 := by omega
      go_wp2_with fail
      refine wp_region_held_drew (S := fun w' => Below wr.heap.size wr w') (by kernel_rfl) (below_drew (Below.refl _ _)) (fun hW => ?_)
      have WDB := Aside0.mk (show Below wr.heap.size wr wr.drew from below_drew (Below.refl _ _))
      generalize hWd : wr.drew = Wd at *
      clear hWd
      refine wpAnyH_take (i := 0) (oi := ⟨some 16, _, _, _, _, _⟩) (v := .pointer (some ⟨g2 + 1, 3, none⟩)) rfl (by kernel_rfl) (by kernel_rfl) (by kernel_rfl) (fun _ _ _ h => h) (.inl ⟨by rfl, fun W1 h1 => by go_simp⟩) hW ?_
      try simp only [Act.put, List.setIfInBounds_toArray, List.set_cons_zero, List.set_cons_succ]
      refine wpAnyH_take (i := 1) (oi := ⟨some 17, _, _, _, _, _⟩) (v := .slice (some ⟨bp, op, none⟩) n3 c3) rfl (by kernel_rfl) (by kernel_rfl) (by kernel_rfl) (fun _ _ _ h => h) (.inl ⟨by rfl, fun W1 h1 => by have h2 := (Below.cell (p := ⟨g2 + 1, 3, none⟩) h1 r39).trans O3.out; clear h1; go_simp⟩) hW ?_
      try simp only [Act.put, List.setIfInBounds_toArray, List.set_cons_zero, List.set_cons_succ]
      refine wpAnyH_take (i := 2) (oi := ⟨some 18, _, _, _, _, _⟩) (v := .int .i64 (i : Int)) rfl (by kernel_rfl) (by kernel_rfl) (by kernel_rfl) (fun _ _ _ h => h) (.inl ⟨by rfl, fun W1 h1 => by go_simp⟩) hW ?_
      try simp only [Act.put, List.setIfInBounds_toArray, List.set_cons_zero, List.set_cons_succ]
      refine wpAnyH_take (i := 3) (oi := ⟨some 19, _, _, _, _, _⟩) (v := .pointer (some ⟨bp, op + i * 36, none⟩)) rfl (by kernel_rfl) (by kernel_rfl) (by kernel_rfl) (fun _ _ _ h => h) (.inl ⟨by rfl, fun W1 h1 => by have hlt := hi3; go_simp⟩) hW ?_
      try simp only [Act.put, List.setIfInBounds_toArray, List.set_cons_zero, List.set_cons_succ]
      refine wpAnyH_take (i := 4) (oi := ⟨some 20, _, _, _, _, _⟩) (v := .agg cp) rfl (by kernel_rfl) (by kernel_rfl) (by kernel_rfl) (fun _ _ _ h => h) (yields_mid (by rfl) 32 _ rfl bp (op + i * 36) rfl cp _ (fun W1 h1 => rangeAt_below HPR.out h1 rbp) underl56 rfl (by rw [HPI.out.2.2.2.2]; kernel_rfl)) hW ?_
      try simp only [Act.put, List.setIfInBounds_toArray, List.set_cons_zero, List.set_cons_succ]
      refine wpAnyH_take (i := 5) (oi := ⟨some 21, _, _, _, _, _⟩) (v := .pointer (some ⟨g2 + 1, 0, none⟩)) rfl (by kernel_rfl) (by kernel_rfl) (by kernel_rfl) (fun _ _ _ h => h) (.inl ⟨by rfl, fun W1 h1 => by go_simp⟩) hW ?_
      try simp only [Act.put, List.setIfInBounds_toArray, List.set_cons_zero, List.set_cons_succ]
      refine wpAnyH_take (i := 6) (oi := ⟨some 22, _, _, _, _, _⟩) (v := .int .i64 (lv : Int)) rfl (by kernel_rfl) (by kernel_rfl) (by kernel_rfl) (fun _ _ _ h => h) (.inl ⟨by rfl, fun W1 h1 => by have h2 := (Below.cell (p := ⟨g2 + 1, 0, none⟩) h1 r39).trans O0.out; clear h1; go_simp⟩) hW ?_
      try simp only [Act.put, List.setIfInBounds_toArray, List.set_cons_zero, List.set_cons_succ]
      refine wpAnyH_take (i := 7) (oi := ⟨some 23, _, _, _, _, _⟩) (v := .int .i64 ((lv : Int) - 1)) rfl (by kernel_rfl) (by kernel_rfl) (by kernel_rfl) (fun _ _ _ h => h) (.inl ⟨by rfl, fun W1 h1 => by go_simp⟩) hW ?_
      try simp only [Act.put, List.setIfInBounds_toArray, List.set_cons_zero, List.set_cons_succ]
      refine wpAnyH_take (i := 8) (oi := ⟨some 24, _, _, _, _, _⟩) (v := .pointer (some ⟨g2, 0, none⟩)) rfl (by kernel_rfl) (by kernel_rfl) (by kernel_rfl) (fun _ _ _ h => h) (.inl ⟨by rfl, fun W1 h1 => by go_simp⟩) hW ?_
      try simp only [Act.put, List.setIfInBounds_toArray, List.set_cons_zero, List.set_cons_succ]
      refine wpAnyH_take (i := 9) (oi := ⟨some 25, _, _, _, _, _⟩) (v := .pointer (some ⟨g2, 1, none⟩)) rfl (by kernel_rfl) (by kernel_rfl) (by kernel_rfl) (fun _ _ _ h => h) (.inl ⟨by rfl, fun W1 h1 => by go_simp⟩) hW ?_
      try simp only [Act.put, List.setIfInBounds_toArray, List.set_cons_zero, List.set_cons_succ]
      refine wpAnyH_take (i := 10) (oi := ⟨some 26, _, _, _, _, _⟩) (v := .int .i64 xa) rfl (by kernel_rfl) (by kernel_rfl) (by kernel_rfl) (fun _ _ _ h => h) (.inl ⟨by rfl, fun W1 h1 => by have h2 := (Below.cell (p := ⟨g2, 1, none⟩) h1 r29).trans M0.out; clear h1; go_simp⟩) hW ?_
      try simp only [Act.put, List.setIfInBounds_toArray, List.set_cons_zero, List.set_cons_succ]
      refine wpAnyH_take (i := 11) (oi := ⟨some 27, _, _, _, _, _⟩) (v := .pointer (some ⟨g2 + 1, 1, none⟩)) rfl (by kernel_rfl) (by kernel_rfl) (by kernel_rfl) (fun _ _ _ h => h) (.inl ⟨by rfl, fun W1 h1 => by go_simp⟩) hW ?_
      try simp only [Act.put, List.setIfInBounds_toArray, List.set_cons_zero, List.set_cons_succ]
      refine wpAnyH_take (i := 12) (oi := ⟨some 28, _, _, _, _, _⟩) (v := .slice (some ⟨bk, ok, none⟩) n1 c1) rfl (by kernel_rfl) (by kernel_rfl) (by kernel_rfl) (fun _ _ _ h => h) (.inl ⟨by rfl, fun W1 h1 => by have h2 := (Below.cell (p := ⟨g2 + 1, 1, none⟩) h1 r39).trans O1.out; clear h1; go_simp⟩) hW ?_
      try simp only [Act.put, List.setIfInBounds_toArray, List.set_cons_zero, List.set_cons_succ]
      refine wpAnyH_take (i := 13) (oi := ⟨some 29, _, _, _, _, _⟩) (v := .int .i64 (i : Int)) rfl (by kernel_rfl) (by kernel_rfl) (by kernel_rfl) (fun _ _ _ h => h) (.inl ⟨by rfl, fun W1 h1 => by go_simp⟩) hW ?_
      try simp only [Act.put, List.setIfInBounds_toArray, List.set_cons_zero, List.set_cons_succ]
      refine wpAnyH_take (i := 14) (oi := ⟨some 30, _, _, _, _, _⟩) (v := .pointer (some ⟨bk, ok + i, none⟩)) rfl (by kernel_rfl) (by kernel_rfl) (by kernel_rfl) (fun _ _ _ h => h) (.inl ⟨by rfl, fun W1 h1 => by have hlt : i < n1 := (by omega); go_simp⟩) hW ?_
      try simp only [Act.put, List.setIfInBounds_toArray, List.set_cons_zero, List.set_cons_succ]
      refine wpAnyH_take (i := 15) (oi := ⟨some 31, _, _, _, _, _⟩) (v := tiv) rfl (by kernel_rfl) (by kernel_rfl) (by kernel_rfl) (fun _ _ _ h => h) (.inl ⟨by rfl, fun W1 h1 => by have h2 := (Below.cell (p := ⟨bk, ok + i, none⟩) h1 rbk).trans HKI.out; clear h1; go_simp⟩) hW ?_
      try simp only [Act.put, List.setIfInBounds_toArray, List.set_cons_zero, List.set_cons_succ]
      refine wpAnyH_take (i := 16) (oi := ⟨some 32, _, _, _, _, _⟩) (v := .pointer (some ⟨g2, 39, none⟩)) rfl (by kernel_rfl) (by kernel_rfl) (by kernel_rfl) (fun _ _ _ h => h) (.inl ⟨by rfl, fun W1 h1 => by go_simp⟩) hW ?_
      try simp only [Act.put, List.setIfInBounds_toArray, List.set_cons_zero, List.set_cons_succ]
      refine wpAnyH_take (i := 17) (oi := ⟨some 33, _, _, _, _, _⟩) (v := tb) rfl (by kernel_rfl) (by kernel_rfl) (by kernel_rfl) (fun _ _ _ h => h) (.inl ⟨by rfl, fun W1 h1 => by have h2 := (Below.cell (p := ⟨g2, 39, none⟩) h1 r29).trans M4.out; clear h1; go_simp⟩) hW ?_
      try simp only [Act.put, List.setIfInBounds_toArray, List.set_cons_zero, List.set_cons_succ]
      refine wpAnyH_take (i := 18) (oi := ⟨some 34, _, _, _, _, _⟩) (v := .pointer (some ⟨g2, 40, none⟩)) rfl (by kernel_rfl) (by kernel_rfl) (by kernel_rfl) (fun _ _ _ h => h) (.inl ⟨by rfl, fun W1 h1 => by go_simp⟩) hW ?_
      try simp only [Act.put, List.setIfInBounds_toArray, List.set_cons_zero, List.set_cons_succ]
      refine wpAnyH_take (i := 19) (oi := ⟨some 35, _, _, _, _, _⟩) (v := .bool xe) rfl (by kernel_rfl) (by kernel_rfl) (by kernel_rfl) (fun _ _ _ h => h) (.inl ⟨by rfl, fun W1 h1 => by have h2 := (Below.cell (p := ⟨g2, 40, none⟩) h1 r29).trans M5.out; clear h1; go_simp⟩) hW ?_
      try simp only [Act.put, List.setIfInBounds_toArray, List.set_cons_zero, List.set_cons_succ]
      refine wpAnyH_take (i := 20) (oi := ⟨some 36, _, _, _, _, _⟩) (v := .agg r0) rfl (by kernel_rfl) (by kernel_rfl) (by kernel_rfl) (fun _ _ _ h => h) (yields_build (by rfl) 167 _ rfl r0 (by simp [Act.eval]; exact HR0.out)) hW ?_
      try simp only [Act.put, List.setIfInBounds_toArray, List.set_cons_zero, List.set_cons_succ]
      refine wpAnyH_ready (rs := [21]) (by kernel_rfl) (by simp) (AllReadyH.cons rfl (fun K1 hK1 => ?_) AllReadyH.nil)
      have hal := HAL.out Wd
      go_simp
      obtain ⟨gk, hgk⟩ : ∃ g, g = Wd.heap.size := ⟨_, rfl⟩
      obtain ⟨Wa, hWa⟩ : ∃ W, W = Wd.alloc (.cells z 167) := ⟨_, rfl⟩
      have HGK := Aside0.mk (show Wa.heap[gk]? = some (.cells z 167 (0, 0)) by rw [hWa, hgk]; exact blk_new Wd _)
      have HWa := Aside0.mk (show Below wr.heap.size wr Wa by rw [hWa]; exact below_alloc WDB.out _)
      have HGL := Aside0.mk (show wr.heap.size ≤ gk by rw [hgk]; exact WDB.out.size)
      rw [← hWa, ← hgk]
      clear hal hgk hWa
      refine hK1.out _ _ (HWa.out) (fun hW => ?_)
      try simp only [Act.put, List.setIfInBounds_toArray, List.set_cons_zero, List.set_cons_succ]
      refine wpAnyH_ready (rs := [22]) (by kernel_rfl) (by simp) (AllReadyH.cons rfl (fun K2 hK2 => ?_) AllReadyH.nil)
      refine wp_store_row (o := ⟨none, _, _, _, _, _⟩) 167 (.tmp 7) (.tmp 36) rfl gk r0 rfl rfl 167 z HGK.out (by rw [size167, HRS.out.2.1]) (by rw [HRS.out.2.1, HZS.out.1]) HRS.out.2.2 ?_
      have HGR := Aside0.mk (setRow_heap _ gk z r0 167 _ HGK.out)
      refine hK2.out _ _ ((KB_setRow (KB.of_below HWa.out (fun _ => False)) HGL.out r0).to_below (fun k h => h.elim) (Nat.le_refl _)) (fun hW => ?_)
      try simp only [Act.put, List.setIfInBounds_toArray, List.set_cons_zero, List.set_cons_succ]
      refine wpAnyH_done (by kernel_rfl) ?_ _
      clear hK1 hK2 K1 K2
      have HBW := Aside0.mk hW
      obtain ⟨W5, hW5⟩ : ∃ W, W = Wa.setRow gk r0 := ⟨_, rfl⟩
      rw [← hW5] at HGR HBW ⊢
      clear hW hW5 WDB
      obtain ⟨r1, hr1⟩ : ∃ r, r = encL (kidP x n ts i) := ⟨_, rfl⟩
      have HR1 := Aside0.mk (And.intro hr1 (show r1.size = 41 by rw [hr1]; exact encL_size HPI.out.2.1))
      have HFB := Aside0.mk (HR.out.2.trans (HBW.out.mono HR.out.2.size))
      have HRW := Aside0.mk (Kd.R_below HR.out.1 HBW.out)
      have HOK := Aside0.mk (show Ok (kidP x n ts i).at_ from HPI.out.2.1)
      have HLEN := Aside0.mk (show (downL x n ts (i + 1)).length ≤ 100000 by rw [downL, List.length_map, List.length_range]; have := HX.out.1; omega)
      have HGL2 := Aside0.mk (show W9.heap.size ≤ W5.heap.size from HFB.out.size)
      clear hr1
      have o1 := (HBW.out.cell (p := ⟨g2 + 1, 1, none⟩) r39).trans O1.out
      by_cases hlt : i + 1 < n1
      · have dl : decide ((i : Int) + 1 < (n1 : Int)) = true := decide_eq_true (by omega)
        have hkn := (HFB.out.cell (p := ⟨bk, ok + (i + 1), none⟩) hbk).trans (HKK.out (i + 1) hlt)
        rcases hT : ts.getD (i + 1) Tri.zero with ⟨tA, tn, tc⟩
        have HT := Aside0.mk hT
        rw [hT] at hkn
        replace hkn : W5.cell? ⟨bk, ok + (i + 1), none⟩ = some (.slice tA tn tc) := hkn
        clear hT
        have hf1 := frozen_of_row W5 gk 39 r0 167 HGR.out
        have hf2 := frozen_of_row W5 gk 40 r0 167 HGR.out
        have hc1 : W5.cell? ⟨gk, 39, none⟩ = some tb := by
          rw [cell_of_row _ _ 39 _ 167 (0, 0) HGR.out, HRS.out.1, Array.getElem?_append_right (by rw [HPI.out.2.2.2.2]; omega), HPI.out.2.2.2.2]; rfl
        have hc2 : W5.cell? ⟨gk, 40, none⟩ = some (.bool xe) := by
          rw [cell_of_row _ _ 40 _ 167 (0, 0) HGR.out, HRS.out.1, Array.getElem?_append_right (by rw [HPI.out.2.2.2.2]; omega), HPI.out.2.2.2.2]; rfl
        go_upto_region 8 with (fail)
        obtain ⟨W6, hW6⟩ : ∃ W, W = (W5.setCell ⟨gk, 39, none⟩ (.slice tA tn tc)).setCell ⟨gk, 40, none⟩ (.bool true) := ⟨_, rfl⟩
        have HGZ := Aside0.mk (show W6.heap[gk]? = some (.cells r1 167 (0, 0)) by
          rw [hW6, heap_setCell_same _ _ _ _ _ _ (heap_setCell_same _ _ _ _ _ _ HGR.out), HRS.out.1, set2 cp HPI.out.2.2.2.2, HR1.out.1, encL, kidP, if_pos (by rw [← HX.out.2.1]; exact hlt), if_pos (by rw [← HX.out.2.1]; exact hlt), HPI.out.1, HPI.out.2.2.2.1, HXX.out.1, HX.out.2.2.1, HT.out]
          rfl)
        have HFB6 := Aside0.mk (show Below W9.heap.size W9 W6 by
          have h1 := HR.out.2.size
          have h2 := HGL.out
          rw [hW6]
          exact (HFB.out.setCell (by show W9.heap.size ≤ gk; omega) _).setCell (by show W9.heap.size ≤ gk; omega) _)
        have HRW6 := Aside0.mk (show Kd.R kPl 167 W6 W9.heap.size (fun _ => True) (.slice A5 n5 c5) (downL x n ts (i + 1)) by
          have h2 := HGL.out
          rw [hW6]
          have hr := Kd.R_below (Kd.R_bound HR.out.1) HBW.out
          exact Kd.R_mono (Kd.R_far (Kd.R_far hr (p := ⟨gk, 39, none⟩) (fun k hk => by show k ≠ gk; have := hk.2.2.1; omega) _) (p := ⟨gk, 40, none⟩) (fun k hk => by show k ≠ gk; have := hk.2.2.1; omega) _) (fun _ _ => trivial))
        have HGL6 := Aside0.mk (show W9.heap.size ≤ W6.heap.size from HFB6.out.size)
        rw [← hW6]
        clear hW6 hf1 hf2 hc1 hc2 o1 hkn
        go_wp2_with (first | (at_builtin; refine append_L (w0 := W9) W9.heap.size rfl (fun _ => True) (.tmp 51) (.tmp 53) rfl _ (downL x n ts (i + 1)) (kidP x n ts i) r1 HR1.out.1 HOK.out rfl rfl rfl HRW6.out (fun _ _ => trivial) HFB6.out HGL6.out HLEN.out ?_; intro v6 w6 hr6 hb6 hg6 ho6; have H6 := Aside0.mk (And.intro hr6 hb6); clear hr6 hb6 hg6 ho6) | (refine one_L rfl (.tmp 52) rfl r1 HR1.out.2 rfl ?_) | (refine wpList_load_row rfl 167 (.tmp 7) rfl gk rfl 167 r1 (0, 0) _ HGZ.out Tryz.underlying167 rfl (by rw [HR1.out.2, size167]) ?_))
        go_roundw
        case rel => exact ⟨i, by go_num, by omega, by rw [downL_step x n ts i (by rw [← HX.out.1]; exact hi3)]; exact H6⟩
        case measure => simp [intOf]
      · have dl : decide ((i : Int) + 1 < (n1 : Int)) = false := decide_eq_false (by omega)
        go_upto_region 8 with (fail)
        have HGZ := Aside0.mk (show W5.heap[gk]? = some (.cells r1 167 (0, 0)) by
          rw [HGR.out, HR1.out.1, HRS.out.1, encL, kidP, if_neg (by rw [← HX.out.2.1]; exact hlt), if_neg (by rw [← HX.out.2.1]; exact hlt), HPI.out.1, HPI.out.2.2.2.1, HXX.out.1, HXX.out.2.1, HXX.out.2.2, HX.out.2.2.1])
        go_wp2_with (first | (at_builtin; refine append_L (w0 := W9) W9.heap.size rfl (fun _ => True) (.tmp 51) (.tmp 53) rfl _ (downL x n ts (i + 1)) (kidP x n ts i) r1 HR1.out.1 HOK.out rfl rfl rfl HRW.out (fun _ _ => trivial) HFB.out HGL2.out HLEN.out ?_; intro v6 w6 hr6 hb6 hg6 ho6; have H6 := Aside0.mk (And.intro hr6 hb6); clear hr6 hb6 hg6 ho6) | (refine one_L rfl (.tmp 52) rfl r1 HR1.out.2 rfl ?_) | (refine wpList_load_row rfl 167 (.tmp 7) rfl gk rfl 167 r1 (0, 0) _ HGZ.out Tryz.underlying167 rfl (by rw [HR1.out.2, size167]) ?_))
        go_roundw
        case rel => exact ⟨i, by go_num, by omega, by rw [downL_step x n ts i (by rw [← HX.out.1]; exact hi3)]; exact H6⟩
        case measure => simp [intOf]
end Go.Proofs.YtchhdafgmifhdaaGreat.KidK
namespace Go.Proofs.YtchhdafgmifhdaaGreat.MetK
open Go.RowKit Go.Proofs.YtchhdafgmifhdaaGreat.B8 Go.Proofs.YtchhdafgmifhdaaGreat.Agg Go.Proofs.YtchhdafgmifhdaaGreat.CodL Go.Proofs.YtchhdafgmifhdaaGreat.CodA Go.Proofs.YtchhdafgmifhdaaGreat.CodB Go.Proofs.YtchhdafgmifhdaaGreat.CrcL Go.Proofs.YtchhdafgmifhdaaGreat.CrcA Go.Proofs.YtchhdafgmifhdaaGreat.CrcB Go.Proofs.YtchhdafgmifhdaaGreat.PVerifyForms Go.Proofs.YtchhdafgmifhdaaGreatW.PrintWords Go.Proofs.YtchhdafgmifhdaaGreatW.PrintLast Go.Proofs.YtchhdafgmifhdaaGreatW.PrintMore Go.Proofs.YtchhdafgmifhdaaGreat.CatL Go.Proofs.YtchhdafgmifhdaaGreat.PtrA Go.Proofs.YtchhdafgmifhdaaGreat.PtrB Go.Proofs.YtchhdafgmifhdaaGreat.PtrE Go.Proofs.YtchhdafgmifhdaaGreat.PtrF Go.Proofs.YtchhdafgmifhdaaGreat.OfA Go.Proofs.YtchhdafgmifhdaaGreat.ExtL Go.Proofs.YtchhdafgmifhdaaGreat.ExtA Go.Proofs.YtchhdafgmifhdaaGreat.KpA Go.Proofs.YtchhdafgmifhdaaGreat.LeaA Go.Proofs.YtchhdafgmifhdaaGreat.LeaC Go.Proofs.YtchhdafgmifhdaaGreat.LeaD Go.Proofs.YtchhdafgmifhdaaGreat.LeaJ Go.Proofs.YtchhdafgmifhdaaGreat.LeaN Go.Proofs.YtchhdafgmifhdaaGreat.LeaO Go.Proofs.YtchhdafgmifhdaaGreat.FitK Go.Proofs.YtchhdafgmifhdaaGreat.PlcK Go.Proofs.YtchhdafgmifhdaaGreat.AlcD Go.Proofs.YtchhdafgmifhdaaGreat.DskC Go.Proofs.YtchhdafgmifhdaaGreat.PoolA Go.Proofs.YtchhdafgmifhdaaGreat.PoolB
set_option linter.unusedVariables false
set_option linter.unusedSimpArgs false
theorem true44 (cs : Array Value) (w : World) : Calls Tryz.prog 44 #[.agg cs] w fun e w' => e = .returned (.bool true) ∧ Below w.heap.size w w' := by
  have HB := Aside0.mk (below_alloc (Below.refl w.heap.size w) (.cells cs 32))
  go_enter Tryz.func44, Tryz.ntmps44
  go_wp2
  go_ret
  exact ⟨rfl, HB.out⟩
/-- The report that is made: its block, where its blocks lie, what it tells. -/
structure RP (base gb : Nat) (v : Value) (bl : List Ptr) (pN hH : Int) (w : World) : Prop where
  blk : w.heap[gb]? = some (.cells #[v, .int .i64 pN, .int .i64 hH] 41 (0, 0))
  row : Kd.R kP 32 w base (fun _ => True) v bl
theorem RP.kept {base gb : Nat} {v : Value} {bl : List Ptr} {pN hH : Int} {w W : World} {S : Nat → Prop} (h : RP base gb v bl pN hH w) (hk : Kept w W S) (hg : ¬ S gb) (hv : ∀ k, v.ownBlock = some k → ¬ S k) : RP base gb v bl pN hH W :=
  ⟨blk_kept h.blk hk hg, Kd.R_mono (Kd.R_step (Kd.R_tight rfl h.row) (fun k hk2 hlt => hk.2 k hlt (hv k hk2.symm))) (fun _ _ => trivial)⟩
theorem RP.below {base gb : Nat} {v : Value} {bl : List Ptr} {pN hH : Int} {w W : World} (h : RP base gb v bl pN hH w) (hb : Below w.heap.size w W) : RP base gb v bl pN hH W :=
  h.kept (Kept.of_below hb (fun _ => False)) (fun h => h) (fun _ _ h => h)
def pairs (n : Nd) : Int := if n.lvl = 0 then (n.keys.length : Int) else 0
def MetOut (w : World) (base gb : Nat) (v : Value) (bl : List Ptr) (pN hH : Int) (q : Ptr) (n : Nd) (e : Ending) (w' : World) : Prop :=
  ∃ v', e = .returned (.tuple #[]) ∧ RP base gb v' (bl ++ [q]) (pN + pairs n) (max hH ((n.lvl : Int) + 1)) w' ∧ KB w w' (fun k => k = gb ∨ some k = v.ownBlock) ∧ (v'.ownBlock = v.ownBlock ∨ ∃ b, v'.ownBlock = some b ∧ w.heap.size ≤ b)
set_option maxRecDepth 100000 in
set_option maxHeartbeats 8000000 in
theorem met45 (base gb : Nat) (v : Value) (bl : List Ptr) (pN hH : Int) (q : Ptr) (n : Nd) (s : Ns) (w : World) (h : RP base gb v bl pN hH w) (hb : base ≤ w.heap.size) (hq : Ok q) (hn : Shape n) (hbl : bl.length ≤ 90000) (hpr : 0 ≤ pN ∧ pN ≤ 100000000) (hhg : 0 ≤ hH ∧ hH ≤ 1000) :
    Calls Tryz.prog 45 #[.agg (encP q), .agg (encN n s), .pointer (some ⟨gb, 0, none⟩)] w (MetOut w base gb v bl pN hH q n) := by
  obtain ⟨P, hP⟩ : ∃ P : Ending → World → Prop, P = MetOut w base gb v bl pN hH q n := ⟨_, rfl⟩
  rw [← hP]
  have HP := Aside0.mk hP
  clear hP
  obtain ⟨cq, hcq⟩ : ∃ cs, cs = encP q := ⟨_, rfl⟩
  obtain ⟨cn, hcn⟩ : ∃ cs, cs = encN n s := ⟨_, rfl⟩
  obtain ⟨n1, hn1⟩ : ∃ k, k = n.keys.length := ⟨_, rfl⟩
  obtain ⟨lv, hlv⟩ : ∃ k, k = n.lvl := ⟨_, rfl⟩
  have hn11 : n1 ≤ 1000 := by rw [hn1]; exact hn.most
  have hlv12 : lv ≤ 12 := by rw [hlv]; exact hn.lvl
  obtain ⟨g3, hg3⟩ : ∃ g, g = w.heap.size := ⟨_, rfl⟩
  obtain ⟨W9, hW9⟩ : ∃ W, W = (w.alloc (.cells cq 32)).alloc (.cells cn 39) := ⟨_, rfl⟩
  have HB9 := Aside0.mk (show Below w.heap.size w W9 by rw [hW9]; exact below_alloc (below_alloc (Below.refl _ _) _) _)
  have HG3 := Aside0.mk (show W9.heap[g3]? = some (.cells cq 32 (0, 0)) by rw [hW9, hg3]; exact blk_alloc (blk_new w _) _)
  have HG4 := Aside0.mk (show W9.heap[g3 + 1]? = some (.cells cn 39 (0, 0)) by rw [hW9, hg3]; have := blk_new (w.alloc (.cells cq 32)) (.cells cn 39); simpa using this)
  have H9 := Aside0.mk (h.below HB9.out)
  have HCQ := Aside0.mk (And.intro hcq (And.intro (show cq.size = 36 by rw [hcq]; exact encP_size hq.len) hq))
  have HLT := Aside0.mk (And.intro (blk_lt h.blk) (And.intro hg3 hb))
  have HCN := Aside0.mk (And.intro hcn (And.intro hlv hn1))
  have HVL := Aside0.mk (show ∀ k, v.ownBlock = some k → k < w.heap.size from Kd.R_lt h.row)
  obtain ⟨A1, c1, A2, c2, A3, c3⟩ := s
  have N0 := Aside0.mk (show W9.cell? ⟨g3 + 1, 0, none⟩ = some (.int .i64 (lv : Int)) by rw [cell_of_row _ _ 0 _ 39 (0, 0) HG4.out, hcn, hlv]; rfl)
  have N1 := Aside0.mk (show W9.cell? ⟨g3 + 1, 1, none⟩ = some (.slice A1 n1 c1) by rw [cell_of_row _ _ 1 _ 39 (0, 0) HG4.out, hcn, hn1]; rfl)
  rw [← hcq, ← hcn]
  clear h hq hn hb hcq hcn hn1 hlv
  go_enter Tryz.func45, Tryz.ntmps45
  go_upto_region 1 with (fail)
  rw [← hg3, ← hW9]
  clear hg3 hW9
  have q0 : W9.cell? ⟨gb, 0, none⟩ = some v := by rw [cell_of_row _ _ 0 _ 41 (0, 0) H9.out.blk]; rfl
  have hz9 : base ≤ W9.heap.size := by have := HLT.out; have := HB9.out.size; omega
  go_upto_region 2 with (first | (at_builtin; refine wpList_plain rfl fun Kc hKc => wp_appP (w0 := W9) base (fun _ => True) (.tmp 6) (.tmp 8) rfl v bl q HCQ.out.2.2 rfl rfl rfl H9.out.row (fun _ _ => trivial) (Below.refl _ _) hz9 (by omega) ?_; intro v' w5 hr5 hb5 hg5 ho5; obtain ⟨A5, c5, rfl, hl5, hC5⟩ := Kd.R_reads hr5; clear hl5 hC5; generalize hn5 : (bl ++ [q]).length = n5 at *; clear hn5; have H5 := Aside0.mk (And.intro hr5 (And.intro hg5 ho5)); have HM5 := Aside0.mk ((hg5.block gb (blk_lt H9.out.blk) (Kd.R_ne H9.out.row H9.out.blk (by decide))).trans H9.out.blk); have HN5 := Aside0.mk ((hg5.block (g3 + 1) (blk_lt HG4.out) (Kd.R_ne H9.out.row HG4.out (by decide))).trans HG4.out); clear hr5 hb5 hg5 ho5; refine hKc _ _ ?_; clear hKc Kc; have hf5 := frozen_of_row w5 gb 0 _ 41 HM5.out; have q05 : w5.cell? ⟨gb, 0, none⟩ = some v := (by rw [cell_of_row _ _ 0 _ 41 (0, 0) HM5.out]; rfl)) | (refine wpList_plain rfl fun Kc hKc => wp_one_P (o := ⟨some 8, _, _, _, _, _⟩) (.tmp 7) rfl q HCQ.out.2.2 (by show Value.agg cq = _; rw [HCQ.out.1]) (hKc _ _ ?_); clear hKc Kc) | (refine wpList_load_row rfl 32 (.tmp 3) rfl g3 rfl 32 cq (0, 0) _ HG3.out underl56 rfl (by rw [i33, HCQ.out.2.1]) ?_))
  obtain ⟨W6, hW6⟩ : ∃ W, W = w5.setCell ⟨gb, 0, none⟩ (.slice A5 n5 c5) := ⟨_, rfl⟩
  have HG6 := Aside0.mk (show W6.heap[gb]? = some (.cells #[.slice A5 n5 c5, .int .i64 pN, .int .i64 hH] 41 (0, 0)) by rw [hW6]; exact heap_setCell_same _ _ _ _ _ _ HM5.out)
  have HN6 := Aside0.mk (show W6.heap[g3 + 1]? = some (.cells cn 39 (0, 0)) by
    have := HLT.out
    rw [hW6]; exact (Below.heap_setCell w5 ⟨gb, 0, none⟩ _ (g3 + 1) (by show g3 + 1 ≠ gb; omega)).trans HN5.out)
  have HK6 := Aside0.mk (show KB w5 W6 (fun k => k = gb) by rw [hW6]; exact KB.setCell w5 ⟨gb, 0, none⟩ _)
  rw [← hW6]
  clear hW6 hf5 q05 q0
  have e2 : W6.cell? ⟨gb, 2, none⟩ = some (.int .i64 hH) := by rw [cell_of_row _ _ 2 _ 41 (0, 0) HG6.out]; rfl
  have en0 : W6.cell? ⟨g3 + 1, 0, none⟩ = some (.int .i64 (lv : Int)) := by rw [cell_of_row _ _ 0 _ 39 (0, 0) HN6.out, HCN.out.1, HCN.out.2.1]; rfl
  have ef2 := frozen_of_row W6 gb 2 _ 41 HG6.out
  obtain ⟨hh1, hh2⟩ := hhg
  go_upto_region 3 with (fail)
  obtain ⟨mx, hmx⟩ : ∃ m, m = max hH ((lv : Int) + 1) := ⟨_, rfl⟩
  rw [← hmx]
  have HMX := Aside0.mk hmx
  clear hmx
  obtain ⟨W7, hW7⟩ : ∃ W, W = W6.setCell ⟨gb, 2, none⟩ (.int .i64 mx) := ⟨_, rfl⟩
  have HG7 := Aside0.mk (show W7.heap[gb]? = some (.cells #[.slice A5 n5 c5, .int .i64 pN, .int .i64 mx] 41 (0, 0)) by rw [hW7]; exact heap_setCell_same _ _ _ _ _ _ HG6.out)
  have HN7 := Aside0.mk (show W7.heap[g3 + 1]? = some (.cells cn 39 (0, 0)) by
    have := HLT.out
    rw [hW7]; exact (Below.heap_setCell W6 ⟨gb, 2, none⟩ _ (g3 + 1) (by show g3 + 1 ≠ gb; omega)).trans HN6.out)
  have HK7 := Aside0.mk (show KB w5 W7 (fun k => k = gb) by rw [hW7]; exact HK6.out.then_ (KB.setCell W6 ⟨gb, 2, none⟩ _) (fun k h => .inl h))
  rw [← hW7]
  clear hW7 e2 en0 ef2
  have en0 : W7.cell? ⟨g3 + 1, 0, none⟩ = some (.int .i64 (lv : Int)) := by rw [cell_of_row _ _ 0 _ 39 (0, 0) HN7.out, HCN.out.1, HCN.out.2.1]; rfl
  have en1 : W7.cell? ⟨g3 + 1, 1, none⟩ = some (.slice A1 n1 c1) := by rw [cell_of_row _ _ 1 _ 39 (0, 0) HN7.out, HCN.out.1, HCN.out.2.2]; rfl
  have ep1 : W7.cell? ⟨gb, 1, none⟩ = some (.int .i64 pN) := by rw [cell_of_row _ _ 1 _ 41 (0, 0) HG7.out]; rfl
  have ef1 := frozen_of_row W7 gb 1 _ 41 HG7.out
  obtain ⟨hp1, hp2⟩ := hpr
  have HFIN := Aside0.mk (show ∀ W8, KB w5 W8 (fun k => k = gb) → ∀ pp, pp = pN + pairs n → W8.heap[gb]? = some (.cells #[.slice A5 n5 c5, .int .i64 pp, .int .i64 mx] 41 (0, 0)) → MetOut w base gb v bl pN hH q n (.returned (.tuple #[])) W8 from fun W8 hk pp hpp hb8 => by
    have hl := HLT.out
    have ne5 := Kd.R_ne H5.out.1 HM5.out (by decide)
    refine ⟨.slice A5 n5 c5, rfl, ⟨by rw [← hpp, ← HCN.out.2.1, ← HMX.out]; exact hb8, ?_⟩, ?_, ?_⟩
    · refine Kd.R_mono (Kd.R_step (Kd.R_tight rfl H5.out.1) (fun k hk2 hlt => hk.kept.2 k hlt (fun e => ?_))) (fun _ _ => trivial)
      rw [e] at hk2
      exact ne5 hk2
    · have k9 : KB w W9 (fun k => k = gb ∨ some k = v.ownBlock) := KB.of_below HB9.out _
      have k5 : KB W9 w5 (fun k => some k = v.ownBlock) := ⟨H5.out.2.1.os, H5.out.2.1.tape, H5.out.2.1.output, H5.out.2.1.size, fun i hi hn => H5.out.2.1.block i hi hn⟩
      exact (k9.then_ k5 (fun k h => .inl (.inr h))).then_ hk (fun k h => .inl (.inl h))
    · rcases H5.out.2.2 with h | ⟨b, h1, h2⟩
      · exact .inl h
      · exact .inr ⟨b, h1, Nat.le_trans HB9.out.size h2⟩)
  by_cases h0 : lv = 0
  · have d0 : ((lv : Int) == 0) = true := by rw [h0]; rfl
    have HPP := Aside0.mk (show pN + (n1 : Int) = pN + pairs n by rw [pairs, if_pos (by rw [← HCN.out.2.1]; exact h0), HCN.out.2.2])
    clear h0
    go_wp2
    go_end0
    rw [HP.out]
    refine HFIN.out _ ?_ _ HPP.out ?_
    · exact HK7.out.then_ (KB.setCell W7 ⟨gb, 1, none⟩ _) (fun k h => .inl h)
    · exact heap_setCell_same _ _ _ _ _ _ HG7.out
  · have d0 : ((lv : Int) == 0) = false := by rw [beq_eq_false_iff_ne]; omega
    have HPP := Aside0.mk (show pN = pN + pairs n by rw [pairs, if_neg (by rw [← HCN.out.2.1]; exact h0)]; omega)
    clear h0
    go_wp2
    go_end0
    rw [HP.out]
    exact HFIN.out _ HK7.out _ HPP.out HG7.out
set_option maxRecDepth 100000 in
set_option maxHeartbeats 4000000 in
theorem get23_none (p d m a mw N : Nat) (fr tu rs : Int) (l : List Sp) (ep : Int) (kv : Value) (cz : Array Value) (hcz : cz = encP zeroP) (w : World) (h : PO w p d m a mw N fr tu rs l ep kv) (hN : 0 < N) (htu : fr < tu) :
    Calls Tryz.prog 23 #[.pointer (some ⟨p, 0, none⟩), .agg cz, .slice none 0 0] w fun e w' => e = .returned (.tuple #[.slice none 0 0, .bool false, .int .i64 0]) ∧ Below w.heap.size w w' := by
  obtain ⟨P, hP⟩ : ∃ P : Ending → World → Prop, P = fun e w' => e = .returned (.tuple #[.slice none 0 0, .bool false, .int .i64 0]) ∧ Below w.heap.size w w' := ⟨_, rfl⟩
  rw [← hP]
  have HP := Aside0.mk hP
  have HB := Aside0.mk (below_alloc (Below.refl w.heap.size w) (.cells cz 32))
  have HG := Aside0.mk (blk_new w (.cells cz 32))
  have H := Aside0.mk (h.below HB.out)
  have HZ := Aside0.mk (And.intro hcz (show cz.size = 36 by rw [hcz]; rfl))
  clear hP h hcz
  go_enter Tryz.func23, Tryz.ntmps23
  go_wp2_with fail
  refine (ready12 p d m a mw N fr tu rs l ep kv _ H.out hN htu).mono ?_
  rintro e W1 ⟨rfl, hb1⟩
  have HB1 := Aside0.mk (below_then HB.out HB.out.size hb1)
  have HG1 := Aside0.mk (blk_below HG.out hb1)
  clear hb1
  go_wp2_with (refine gate_on (o := ⟨some 21, _, _, _, _, _⟩) (by rfl) ?_; dsimp only; refine wpList_load_row rfl 32 (.tmp 4) rfl w.heap.size rfl 32 cz (0, 0) _ HG1.out underl56 rfl (by rw [i33, HZ.out.2]) ?_)
  have T := none_calls zeroP rfl W1
  rw [← HZ.out.1] at T
  refine T.mono ?_
  clear T
  rintro e W2 ⟨he, hb2⟩
  rw [decide_eq_true rfl] at he
  subst he
  have HB2 := Aside0.mk (below_then HB1.out HB1.out.size hb2)
  clear hb2
  go_wp2
  go_ret3
  rw [HP.out]
  exact ⟨rfl, HB2.out⟩
end Go.Proofs.YtchhdafgmifhdaaGreat.MetK
namespace Go.Proofs.YtchhdafgmifhdaaGreat.RunK
open Go.RowKit Go.Proofs.YtchhdafgmifhdaaGreat.B8 Go.Proofs.YtchhdafgmifhdaaGreat.Agg Go.Proofs.YtchhdafgmifhdaaGreat.CodL Go.Proofs.YtchhdafgmifhdaaGreat.CodA Go.Proofs.YtchhdafgmifhdaaGreat.CodB Go.Proofs.YtchhdafgmifhdaaGreat.CrcL Go.Proofs.YtchhdafgmifhdaaGreat.CrcA Go.Proofs.YtchhdafgmifhdaaGreat.CrcB Go.Proofs.YtchhdafgmifhdaaGreat.PVerifyForms Go.Proofs.YtchhdafgmifhdaaGreatW.PrintWords Go.Proofs.YtchhdafgmifhdaaGreatW.PrintLast Go.Proofs.YtchhdafgmifhdaaGreatW.PrintMore Go.Proofs.YtchhdafgmifhdaaGreat.CatL Go.Proofs.YtchhdafgmifhdaaGreat.PtrA Go.Proofs.YtchhdafgmifhdaaGreat.PtrB Go.Proofs.YtchhdafgmifhdaaGreat.PtrE Go.Proofs.YtchhdafgmifhdaaGreat.OfA Go.Proofs.YtchhdafgmifhdaaGreat.ExtA Go.Proofs.YtchhdafgmifhdaaGreat.KpA Go.Proofs.YtchhdafgmifhdaaGreat.LeaA Go.Proofs.YtchhdafgmifhdaaGreat.LeaC Go.Proofs.YtchhdafgmifhdaaGreat.LeaD Go.Proofs.YtchhdafgmifhdaaGreat.LeaJ Go.Proofs.YtchhdafgmifhdaaGreat.LeaO Go.Proofs.YtchhdafgmifhdaaGreat.StrL Go.Proofs.YtchhdafgmifhdaaGreat.FitK Go.Proofs.YtchhdafgmifhdaaGreat.PlcK Go.Proofs.YtchhdafgmifhdaaGreat.KidK Go.Proofs.YtchhdafgmifhdaaGreat.MetK
set_option linter.unusedVariables false
set_option linter.unusedSimpArgs false
/-- A place, by what its bounds are. -/
structure AP where
  at_ : Ptr
  lv : Int
  bi : Int
  f : List Int
  b : List Int
  en : Bool
def fitA (x : AP) (n : Nd) : Bool :=
  decide (x.lv < 0) || (decide ((n.lvl : Int) = x.lv) && (decide (x.at_.birth ≤ x.bi) && (decide (n.keys.getD 0 [] = x.f) && (!x.en || ltL (n.keys.getD (n.keys.length - 1) []) x.b))))
def kidA (x : AP) (n : Nd) (i : Nat) : AP :=
  ⟨n.kids.getD i zeroP, (n.lvl : Int) - 1, x.at_.birth, n.keys.getD i [], if i + 1 < n.keys.length then n.keys.getD (i + 1) [] else x.b, if i + 1 < n.keys.length then true else x.en⟩
def downA (x : AP) (n : Nd) : List AP := (List.range n.kids.length).map fun q => kidA x n (n.kids.length - 1 - q)
/-- The walk over what is still to be gone into: its steps, and what comes of it (none: a node does not fit). -/
inductive Run (Nod : Ptr → Nd → Prop) : Nat → List AP → List Ptr → Int → Int → Option (List Ptr × Int × Int) → Prop
  | done (bl : List Ptr) (p h : Int) : Run Nod 0 [] bl p h (some (bl, p, h))
  | bad (k : Nat) (st : List AP) (x : AP) (n : Nd) (bl : List Ptr) (p h : Int) (hn : Nod x.at_ n) (hf : fitA x n = false) : Run Nod (k + 1) (st ++ [x]) bl p h none
  | step (k : Nat) (st : List AP) (x : AP) (n : Nd) (bl : List Ptr) (p h : Int) (r : Option (List Ptr × Int × Int)) (hn : Nod x.at_ n) (hf : fitA x n = true)
      (hr : Run Nod k (st ++ downA x n) (bl ++ [x.at_]) (p + pairs n) (max h ((n.lvl : Int) + 1)) r) : Run Nod (k + 1) (st ++ [x]) bl p h r
theorem Run.inv {Nod : Ptr → Nd → Prop} {k : Nat} {st : List AP} {x : AP} {bl : List Ptr} {p h : Int} {r : Option (List Ptr × Int × Int)} (hr : Run Nod k (st ++ [x]) bl p h r) :
    ∃ k' n, k = k' + 1 ∧ Nod x.at_ n ∧ ((fitA x n = false ∧ r = none) ∨ (fitA x n = true ∧ Run Nod k' (st ++ downA x n) (bl ++ [x.at_]) (p + pairs n) (max h ((n.lvl : Int) + 1)) r)) := by
  generalize hz : st ++ [x] = zs at hr
  cases hr with
  | done => simp at hz
  | bad k st2 x2 n bl p h hn hf =>
    obtain ⟨e1, e2⟩ := List.append_inj' hz rfl
    injection e2 with e2
    subst e1 e2
    exact ⟨k, n, rfl, hn, .inl ⟨hf, rfl⟩⟩
  | step k st2 x2 n bl p h r hn hf hr =>
    obtain ⟨e1, e2⟩ := List.append_inj' hz rfl
    injection e2 with e2
    subst e1 e2
    exact ⟨k, n, rfl, hn, .inr ⟨hf, hr⟩⟩
theorem least_ex {Q : Nat → Prop} (h : ∃ k, Q k) : ∃ m, Q m ∧ ∀ j, Q j → m ≤ j := by
  obtain ⟨k, hk⟩ := h
  induction k using Nat.strongRecOn with
  | ind k ih =>
    by_cases hx : ∃ j, j < k ∧ Q j
    · obtain ⟨j, hj, hq⟩ := hx
      exact ih j hj hq
    · exact ⟨k, hk, fun j hj => Nat.le_of_not_lt fun hlt => hx ⟨j, hlt, hj⟩⟩
/-- The least number with a property. -/
noncomputable def leastK (Q : Nat → Prop) : Nat := by
  classical
  exact if h : ∃ k, Q k then Classical.choose (least_ex h) else 0
theorem leastK_le {Q : Nat → Prop} {k : Nat} (h : Q k) : leastK Q ≤ k := by
  classical
  unfold leastK
  rw [dif_pos ⟨k, h⟩]
  exact (Classical.choose_spec (least_ex ⟨k, h⟩)).2 k h
theorem leastK_spec {Q : Nat → Prop} (h : ∃ k, Q k) : Q (leastK Q) := by
  classical
  unfold leastK
  rw [dif_pos h]
  exact (Classical.choose_spec (least_ex h)).1
/-- A place stands for another one. -/
structure P1 (w : World) (x : Pl) (a : AP) : Prop where
  at_ : x.at_ = a.at_
  lv : x.lv = a.lv
  bi : x.bi = a.bi
  en : x.en = a.en
  fr : El1 w x.fr a.f
  be : El1 w x.be a.b
  bf : Byt a.f
  bb : Byt a.b
theorem P1.kept {w w1 : World} {x : Pl} {a : AP} (h : P1 w x a) (hk : K5 w w1) : P1 w1 x a := ⟨h.at_, h.lv, h.bi, h.en, h.fr.kept hk, h.be.kept hk, h.bf, h.bb⟩
def pl0 : Pl := ⟨zeroP, 0, 0, Tri.zero, Tri.zero, false⟩
def ap0 : AP := ⟨zeroP, 0, 0, [], [], false⟩
def Rel (w : World) (xs : List Pl) (zs : List AP) : Prop := xs.length = zs.length ∧ ∀ i, i < xs.length → P1 w (xs.getD i pl0) (zs.getD i ap0)
theorem Rel.kept {w w1 : World} {xs : List Pl} {zs : List AP} (h : Rel w xs zs) (hk : K5 w w1) : Rel w1 xs zs := ⟨h.1, fun i hi => (h.2 i hi).kept hk⟩
theorem Rel.append {w : World} {xs ys : List Pl} {zs bs : List AP} (h : Rel w xs zs) (h2 : Rel w ys bs) : Rel w (xs ++ ys) (zs ++ bs) := by
  refine ⟨by rw [List.length_append, List.length_append, h.1, h2.1], fun i hi => ?_⟩
  rw [List.length_append] at hi
  have hl := h.1
  by_cases hlt : i < xs.length
  · have := h.2 i hlt
    rwa [List.getD, List.getD, List.getElem?_append_left hlt, List.getElem?_append_left (by omega)]
  · have := h2.2 (i - xs.length) (by omega)
    rw [List.getD, List.getD, List.getElem?_append_right (by omega), List.getElem?_append_right (by omega), ← hl]
    exact this
theorem Rel.init {w : World} {xs : List Pl} {zs : List AP} {a : AP} (h : Rel w xs (zs ++ [a])) : xs.length = zs.length + 1 ∧ Rel w (xs.take zs.length) zs ∧ P1 w (xs.getD zs.length pl0) a := by
  have hl := h.1
  rw [List.length_append, List.length_singleton] at hl
  refine ⟨hl, ⟨by rw [List.length_take]; omega, fun i hi => ?_⟩, ?_⟩
  · rw [List.length_take] at hi
    have := h.2 i (by omega)
    rw [List.getD, List.getD, List.getElem?_append_left (by omega)] at this
    rw [List.getD, List.getD, List.getElem?_take, if_pos (by omega)]
    exact this
  · have := h.2 zs.length (by omega)
    rw [List.getD, List.getD, List.getElem?_append_right (Nat.le_refl _), Nat.sub_self] at this
    exact this
theorem Rel.kids {w : World} {x : Pl} {a : AP} {n : Nd} {ts : List Tri} (h : P1 w x a) (hn : Shape n) (he : El w ts n.keys) : Rel w (downL x n ts 0) (downA a n) := by
  refine ⟨by simp [downL, downA], fun i hi => ?_⟩
  rw [downL, List.length_map, List.length_range, Nat.sub_zero] at hi
  have hk : n.kids.length = n.keys.length := by
    have hLi := hn.lists
    unfold Lists at hLi
    split at hLi <;> omega
  have e1 : (downL x n ts 0).getD i pl0 = kidP x n ts (n.kids.length - 1 - i) := by simp [downL, List.getD, hi]
  have e2 : (downA a n).getD i ap0 = kidA a n (n.kids.length - 1 - i) := by simp [downA, List.getD, hi]
  rw [e1, e2]
  obtain ⟨j, hj⟩ : ∃ j, j = n.kids.length - 1 - i := ⟨_, rfl⟩
  rw [← hj]
  have hjl : j < n.keys.length := by omega
  have bk : ∀ q, q < n.keys.length → Byt (n.keys.getD q []) := fun q hq => (hn.key _ (by rw [List.getD, List.getElem?_eq_getElem hq]; exact List.getElem_mem _)).2
  refine ⟨rfl, rfl, ?_, ?_, he.2 j hjl, ?_, bk j hjl, ?_⟩
  · show x.at_.birth = a.at_.birth
    rw [h.at_]
  · show (if j + 1 < n.keys.length then true else x.en) = (if j + 1 < n.keys.length then true else a.en)
    rw [h.en]
  · show El1 w (if j + 1 < n.keys.length then ts.getD (j + 1) Tri.zero else x.be) (if j + 1 < n.keys.length then n.keys.getD (j + 1) [] else a.b)
    by_cases hq : j + 1 < n.keys.length
    · rw [if_pos hq, if_pos hq]; exact he.2 (j + 1) hq
    · rw [if_neg hq, if_neg hq]; exact h.be
  · show Byt (if j + 1 < n.keys.length then n.keys.getD (j + 1) [] else a.b)
    by_cases hq : j + 1 < n.keys.length
    · rw [if_pos hq]; exact bk (j + 1) hq
    · rw [if_neg hq]; exact h.bb
/-- Where a row of places lies. -/
theorem CL_at {w : World} {A : Option Addr} {n : Nat} {l : List Pl} (h : Kd.C kPl w A n l) (h0 : 0 < n) :
    ∃ b off, A = some ⟨b, off, none⟩ ∧ b < w.heap.size ∧ ∀ i, i < n → Ok (l.getD i pl0).at_ ∧ w.rangeAt b (off + i * 41) (encL (l.getD i pl0)).toList := by
  have each : ∀ i, i < n → ∃ ad, A = some ad ∧ Ok (l.getD i pl0).at_ ∧ ∀ j u, (encL (l.getD i pl0)).toList[j]? = some u → w.cell? (ad.add (i * 41 + j)) = some u := by
    intro i hi
    obtain ⟨ad, c, e, _, hk, hj⟩ := Kd.C_get h pl0 (i : Int) (by omega) (by omega)
    rw [Int.toNat_natCast] at hk hj
    obtain ⟨rfl, ho⟩ := hk
    exact ⟨ad, e, ho, fun j u hu => hj j u hu⟩
  obtain ⟨ad, e, ho, hc⟩ := each 0 h0
  have g0 := hc 0 _ (by simp [encL, encP]; rfl)
  have hs : ad.spot = none := by
    have := World.cell?_spot g0
    rwa [show ad.add (0 * 41 + 0) = ad from rfl] at this
  obtain ⟨b, off, s⟩ := ad
  simp only at hs
  subst hs
  refine ⟨b, off, e, World.block_lt_of_cell? w _ g0, fun i hi => ?_⟩
  obtain ⟨ad', e', ho', hc'⟩ := each i hi
  rw [e] at e'
  injection e' with e'
  subst e'
  refine ⟨ho', fun j u hu => ?_⟩
  have := hc' j u hu
  rwa [show (⟨b, off, none⟩ : Addr).add (i * 41 + j) = ⟨b, off + i * 41 + j, none⟩ from by rw [add_at]; simp [Nat.add_assoc]] at this
end Go.Proofs.YtchhdafgmifhdaaGreat.RunK
namespace Go.Proofs.YtchhdafgmifhdaaGreat.WlkK
open Go.RowKit Go.Proofs.YtchhdafgmifhdaaGreat.B8 Go.Proofs.YtchhdafgmifhdaaGreat.Agg Go.Proofs.YtchhdafgmifhdaaGreat.CodL Go.Proofs.YtchhdafgmifhdaaGreat.CodA Go.Proofs.YtchhdafgmifhdaaGreat.CodB Go.Proofs.YtchhdafgmifhdaaGreat.CrcL Go.Proofs.YtchhdafgmifhdaaGreat.CrcA Go.Proofs.YtchhdafgmifhdaaGreat.CrcB Go.Proofs.YtchhdafgmifhdaaGreat.PVerifyForms Go.Proofs.YtchhdafgmifhdaaGreatW.PrintWords Go.Proofs.YtchhdafgmifhdaaGreatW.PrintLast Go.Proofs.YtchhdafgmifhdaaGreatW.PrintMore Go.Proofs.YtchhdafgmifhdaaGreat.CatL Go.Proofs.YtchhdafgmifhdaaGreat.PtrA Go.Proofs.YtchhdafgmifhdaaGreat.PtrB Go.Proofs.YtchhdafgmifhdaaGreat.PtrE Go.Proofs.YtchhdafgmifhdaaGreat.PtrF Go.Proofs.YtchhdafgmifhdaaGreat.OfA Go.Proofs.YtchhdafgmifhdaaGreat.ExtL Go.Proofs.YtchhdafgmifhdaaGreat.ExtA Go.Proofs.YtchhdafgmifhdaaGreat.KpA Go.Proofs.YtchhdafgmifhdaaGreat.LeaA Go.Proofs.YtchhdafgmifhdaaGreat.LeaC Go.Proofs.YtchhdafgmifhdaaGreat.LeaD Go.Proofs.YtchhdafgmifhdaaGreat.LeaF Go.Proofs.YtchhdafgmifhdaaGreat.LeaJ Go.Proofs.YtchhdafgmifhdaaGreat.LeaL Go.Proofs.YtchhdafgmifhdaaGreat.LeaN Go.Proofs.YtchhdafgmifhdaaGreat.LeaO Go.Proofs.YtchhdafgmifhdaaGreat.StrL Go.Proofs.YtchhdafgmifhdaaGreat.FitK Go.Proofs.YtchhdafgmifhdaaGreat.PlcK Go.Proofs.YtchhdafgmifhdaaGreat.KidK Go.Proofs.YtchhdafgmifhdaaGreat.MetK Go.Proofs.YtchhdafgmifhdaaGreat.RunK Go.Proofs.YtchhdafgmifhdaaGreat.AlcD Go.Proofs.YtchhdafgmifhdaaGreat.DskC Go.Proofs.YtchhdafgmifhdaaGreat.PoolA Go.Proofs.YtchhdafgmifhdaaGreat.PoolB Go.Proofs.YtchhdafgmifhdaaGreat.BrdK Go.Proofs.YtchhdafgmifhdaaGreat.PolK Go.Proofs.YtchhdafgmifhdaaGreat.LodK Go.Proofs.YtchhdafgmifhdaaGreat.BlkA Go.Proofs.YtchhdafgmifhdaaGreat.ShaK
set_option linter.unusedVariables false
set_option linter.unusedSimpArgs false
/-- A node lies where a pointer tells. -/
def Nod (rd : Int → List Int) (N : Nat) (q : Ptr) (x : Nd) : Prop := Holds rd q (nodeL x) ∧ RightN x ∧ Right q ∧ q.at_ + sect q.len ≤ N
/-- Where the walk stands: k steps are left. -/
def WS (wE : World) (gb : Nat) (Nd_ : Ptr → Nd → Prop) (r : Option (List Ptr × Int × Int)) (k : Nat) (v12 : Value) (wr : World) : Prop :=
  ∃ (xs : List Pl) (zs : List AP) (bl : List Ptr) (pN hH : Int) (v : Value), Run Nd_ k zs bl pN hH r ∧ Kd.R kPl 167 wr wE.heap.size (fun _ => True) v12 xs ∧ Rel wr xs zs ∧ RP wE.heap.size gb v bl pN hH wr ∧ KB wE wr (fun k => k = gb) ∧
    bl.length + k ≤ 80000 ∧ xs.length ≤ 1 + 1000 * bl.length ∧ (0 ≤ pN ∧ pN ≤ 1000 * (bl.length : Int)) ∧ (0 ≤ hH ∧ hH ≤ 13)
def WkOut (wE : World) (gb : Nat) (r : Option (List Ptr × Int × Int)) (e : Ending) (w' : World) : Prop :=
  KB wE w' (fun k => k = gb) ∧ match r with
  | some (bl, p, h) => e = .returned (.int .i64 0) ∧ ∃ v, RP wE.heap.size gb v bl p h w'
  | none => e = .returned (.int .i64 11)
theorem cutL (A : Option Addr) (n c j : Nat) (hm : j ≤ n) (hc : n ≤ c) (W : World) : (Instr.slice 168 (.slice A n c) none (some (.int .i64 (j : Int))) none).run Tryz.prog W = .ok (.slice A j c) W := by
  obtain ⟨z, hz, _⟩ := info167
  obtain ⟨i0, hi, _, _, _⟩ := info_parts hz
  have := cut_to (P := Tryz.prog) 168 167 .i64 Tryz.underlying168 hi A n c (j : Int) (by omega) (by omega) hc W
  simpa using this
theorem R_oneL (W : World) (base : Nat) (hb : base ≤ W.heap.size) (x : Pl) (cs : Array Value) (hcs : cs = encL x) (hk : Ok x.at_) : Kd.R kPl 167 (W.alloc (.cells cs 167)) base (fun _ => True) (.slice (some ⟨W.heap.size, 0, none⟩) 1 1) [x] := by
  refine ⟨fun _ _ => trivial, (encL x).toList, ?_, ?_⟩
  · have := World.ownsRow_lit (base := base) (e := 167) (size := 41) W cs 1 hb (by decide) (by rw [hcs, encL_size hk])
    rw [hcs] at this ⊢
    have h2 : (W.alloc (.cells (encL x) 167)).ownsRow base 167 41 (.slice (some ⟨W.heap.size, 0, none⟩) 1 1) 1 (encL x).toList := by simpa using this
    exact h2
  · refine ⟨by rw [encL_len hk]; rfl, fun j p hj => ?_⟩
    match j with
    | 0 =>
      obtain rfl : x = p := by simpa using hj
      refine ⟨?_, hk⟩
      rw [show kPl.sz = 41 from rfl, Nat.zero_mul, List.drop_zero]
      exact List.take_of_length_le (by rw [encL_len hk]; exact Nat.le_refl _)
    | j + 1 => simp at hj
section
variable {ops : Array Oper} {o : Oper} {rest : List Oper} {a : Act} {w : World} {Q : Exit → Act → World → Prop}
theorem load_cs (hgd : o.guard = none) (ty : TypeId) (x : Operand) (ho : o.op = .load ty x) (b off : Nat) (cs : Array Value) (d : TypeDesc) (hx : a.eval x = .pointer (some ⟨b, off, none⟩)) (hc : w.rangeAt b off cs.toList)
    (hu : Tryz.prog.underlying ty = some d) (hd : d.isRow = true) (hi : (Tryz.prog.info? ty).map (·.size) = some cs.size)
    (h : wpList Tryz.prog ops Q rest (a.put o.dst (.agg cs)) w) : wpList Tryz.prog ops Q (o :: rest) a w := by
  refine wpList_load_mid hgd ty x ho b off hx cs.toList d hc hu hd (by rw [hi, Array.length_toList]) ?_
  simpa using h
end
theorem range_pre {w : World} {g : Nat} {cs : Array Value} {t : TypeId} (hg : w.heap[g]? = some (.cells cs t (0, 0))) {cp : Array Value} (h : ∀ i, i < cp.size → cs[i]? = cp[i]?) : w.rangeAt g 0 cp.toList := fun j v hv => by
  rw [Array.getElem?_toList] at hv
  have hj : j < cp.size := (Array.getElem?_eq_some_iff.1 hv).1
  rw [Nat.zero_add, cell_of_row _ _ j cs t (0, 0) hg, h j hj, hv]
theorem fit_eq {w : World} {x : Pl} {a : AP} (h : P1 w x a) (n : Nd) : fitB x a.f a.b n = fitA a n := by
  unfold fitB fitA
  rw [h.lv, h.at_, h.bi, h.en]
theorem own5 {w : World} {base : Nat} {ok : Nat → Prop} {v : Value} {bl : List Ptr} (h : Kd.R kP 32 w base ok v bl) {q : Nat} (hq : v.ownBlock = some q) : ∀ cs fz, w.heap[q]? ≠ some (.cells cs 5 fz) := fun cs fz e => by
  obtain ⟨_, _, _, t, ht, cells, hh⟩ := (Kd.R_bound h).1 q hq
  have ht2 : t = 32 := by simpa [show kP.E = [] from rfl] using ht
  rw [hh] at e
  injection e with e
  injection e with _ e _
  rw [ht2] at e
  exact absurd e (by decide)
theorem el1_nil (w : World) : El1 w Tri.zero [] := ⟨Kd.C_nil _ _, rfl, Nat.le_refl _, fun ad had => by cases had⟩
set_option maxRecDepth 100000 in
set_option maxHeartbeats 16000000 in
theorem walk43 (wB : World) (p d m lb a mw N : Nat) (fr tu rs : Int) (l : List Sp) (ep : Int) (kv : Value) (rd : Int → List Int) (gb : Nat) (root : Ptr) (K : Nat) (r : Option (List Ptr × Int × Int)) (w : World)
    (h : PV wB p d m lb a mw N fr tu rs l ep kv rd) (hN : 0 < N) (htu : fr < tu) (hgb : wB.heap.size ≤ gb) (hB : Below wB.heap.size wB w) (hrp : RP w.heap.size gb (.slice none 0 0) [] 0 0 w)
    (hq : Ok root) (hnz : root ≠ zeroP) (hK : K ≤ 70000) (hrun : Run (Nod rd N) K [⟨root, -1, 0, [], [], false⟩] [] 0 0 r) :
    Calls Tryz.prog 43 #[.pointer (some ⟨p, 0, none⟩), .agg (encP root), .func (.func 44) #[] #[], .func (.func 45) #[] #[.pointer (some ⟨gb, 0, none⟩)]] w (WkOut w gb r) := by
  obtain ⟨P, hP⟩ : ∃ P : Ending → World → Prop, P = WkOut w gb r := ⟨_, rfl⟩
  rw [← hP]
  have HP := Aside0.mk hP
  clear hP
  obtain ⟨cq, hcq⟩ : ∃ cs, cs = encP root := ⟨_, rfl⟩
  have HCQ := Aside0.mk (And.intro hcq (And.intro (show cq.size = 36 by rw [hcq]; exact encP_size hq.len) hq))
  have HV := Aside0.mk h
  have HNN := Aside0.mk (And.intro hN htu)
  have HGB := Aside0.mk hgb
  obtain ⟨g5, hg5⟩ : ∃ g, g = w.heap.size := ⟨_, rfl⟩
  obtain ⟨W0, hW0⟩ : ∃ W, W = w.alloc (.cells cq 32) := ⟨_, rfl⟩
  have HBB := Aside0.mk hB
  have HBW0 := Aside0.mk (show Below w.heap.size w W0 by rw [hW0]; exact below_alloc (Below.refl _ _) _)
  have HB0 := Aside0.mk (show Below wB.heap.size wB W0 by rw [hW0]; exact below_then hB hB.size (below_alloc (Below.refl _ _) _))
  have HG0 := Aside0.mk (show W0.heap[g5]? = some (.cells cq 32 (0, 0)) by rw [hW0, hg5]; exact blk_new w _)
  have HRP0 := Aside0.mk (show RP w.heap.size gb (.slice none 0 0) [] 0 0 W0 by rw [hW0]; exact hrp.below (below_alloc (Below.refl _ _) _))
  have HRUN := Aside0.mk (And.intro hrun (And.intro hK hnz))
  rw [← hcq]
  clear h hN htu hgb hB hrp hq hnz hK hrun hcq
  go_enter Tryz.func43, Tryz.ntmps43
  go_upto_region 1 with (fail)
  rw [← hg5, ← hW0]
  clear hg5 hW0
  go_wp2_with fail
  refine (get23_none p d m a mw N fr tu rs l ep kv _ enc_zero.symm W0 (HV.out.below HB0.out).po HNN.out.1 HNN.out.2).mono ?_
  rintro e W1 ⟨rfl, hb1⟩
  have HB1 := Aside0.mk (below_then HB0.out HB0.out.size hb1)
  have HBW1 := Aside0.mk (below_then HBW0.out HBW0.out.size hb1)
  have HG1 := Aside0.mk (blk_below HG0.out hb1)
  have HRP1 := Aside0.mk (HRP0.out.below hb1)
  clear hb1 HB0 HG0 HRP0
  go_upto_region 2 with (fail)
  go_wp2_with (refine gate_on (o := ⟨some 26, _, _, _, _, _⟩) (by rfl) ?_; dsimp only; refine wpList_load_row rfl 32 (.tmp 5) rfl g5 rfl 32 cq (0, 0) _ HG1.out underl56 rfl (by rw [i33, HCQ.out.2.1]) ?_)
  have T := none_calls root HCQ.out.2.2.len W1
  rw [← HCQ.out.1] at T
  refine T.mono ?_
  clear T
  rintro e W2 ⟨he, hb2⟩
  rw [decide_eq_false HRUN.out.2.2] at he
  subst he
  have HB2 := Aside0.mk (below_then HB1.out HB1.out.size hb2)
  have HBW2 := Aside0.mk (below_then HBW1.out HBW1.out.size hb2)
  have HG2 := Aside0.mk (blk_below HG1.out hb2)
  have HRP2 := Aside0.mk (HRP1.out.below hb2)
  clear hb2 HB1 HG1 HRP1
  obtain ⟨r0, hr0⟩ : ∃ r, r = cq ++ #[.int .i64 (-1), .int .i64 0, .slice none 0 0, .slice none 0 0, .bool false] := ⟨_, rfl⟩
  have HR0 := Aside0.mk (show Tryz.prog.built 167 [(0, .agg cq), (1, .int .i64 (-1))] = some r0 by rw [built167r cq HCQ.out.2.1, hr0])
  have HRE := Aside0.mk (And.intro (show r0 = encL ⟨root, -1, 0, Tri.zero, Tri.zero, false⟩ by rw [hr0, HCQ.out.1]; rfl) (show r0.size = 41 by rw [hr0, Array.size_append, HCQ.out.2.1]; rfl))
  clear hr0
  go_upto_region 4 with (fail)
  go_wp2_with (first | (refine one_L rfl (.tmp 31) rfl r0 HRE.out.2 rfl ?_) | (refine wpList_build_of rfl 167 #[(0, .tmp 30), (1, .const (.int .i64 (-1)))] rfl r0 ?hb ?_; (case hb => simp [Act.eval]; exact HR0.out)) | (refine wpList_load_row rfl 32 (.tmp 5) rfl g5 rfl 32 cq (0, 0) _ HG2.out underl56 rfl (by rw [i33, HCQ.out.2.1]) ?_))
  have HST := Aside0.mk (show WS w gb (Nod rd N) r K (.slice (some ⟨W2.heap.size, 0, none⟩) 1 1) (W2.alloc (.cells r0 167)) by
    have hb := below_alloc (Below.refl W2.heap.size W2) (.cells r0 167)
    refine ⟨[⟨root, -1, 0, Tri.zero, Tri.zero, false⟩], _, [], 0, 0, _, HRUN.out.1, ?_, ?_, HRP2.out.below hb, KB.of_below (below_then HBW2.out HBW2.out.size hb) _, by have := HRUN.out.2.1; simp; omega, by simp, by simp, by simp⟩
    · exact R_oneL W2 w.heap.size HBW2.out.size _ r0 HRE.out.1 HCQ.out.2.2
    · refine ⟨rfl, fun i hi => ?_⟩
      obtain rfl : i = 0 := by simpa using hi
      exact ⟨rfl, rfl, rfl, rfl, el1_nil _, el1_nil _, (fun y hy => by cases hy), (fun y hy => by cases hy)⟩)
  generalize hW3 : W2.alloc (.cells r0 167) = W3 at *
  generalize hgs : W2.heap.size = gs at *
  clear hW3 hgs HB2 HG2 HRP2 HR0 HRE
  obtain ⟨z, hz, hz1, hal⟩ := zero167
  have HZS := Aside0.mk (And.intro hz hz1)
  have HAL := Aside0.mk hal
  clear hz hz1 hal HRUN
  go_loopw [12] (fun v12 wr => ∃ k A n c, v12 = .slice A n c ∧ Aside0 (WS w gb (Nod rd N) r k (.slice A n c) wr)) (fun v12 wr => leastK (fun k => WS w gb (Nod rd N) r k v12 wr))
  case atStart => exact ⟨K, _, _, _, rfl, HST⟩
  case round =>
    obtain ⟨k0, A, n, c, rfl, h0⟩ := hrel
    obtain ⟨k, hk, hmin⟩ : ∃ k, WS w gb (Nod rd N) r k (.slice A n c) wr ∧ k = leastK (fun k => WS w gb (Nod rd N) r k (.slice A n c) wr) := ⟨_, leastK_spec (Q := fun k => WS w gb (Nod rd N) r k (.slice A n c) wr) ⟨k0, h0.out⟩, rfl⟩
    have HMIN := Aside0.mk hmin
    clear h0 hmin HST
    obtain ⟨xs, zs, bl, pN, hH, v, hrun, hrow, hrel, hrp, hbe, hbn, hxn, hpn, hhn⟩ := hk
    obtain ⟨hnl, hle, _⟩ := Kd.R_reads' hrow
    rcases List.eq_nil_or_concat zs with hz0 | ⟨st, x, hz0⟩
    · subst hz0
      have hx0 : xs = [] := List.eq_nil_of_length_eq_zero (by have := hrel.1; simpa using this)
      subst hx0
      obtain rfl : n = 0 := by simpa using hnl
      have HFIN := Aside0.mk (show WkOut w gb r (.returned (.int .i64 0)) wr by
        refine ⟨hbe, ?_⟩
        have hinv : ∀ (zs : List AP), zs = [] → Run (Nod rd N) k zs bl pN hH r → r = some (bl, pN, hH) := by
          intro zs e hr
          cases hr with
          | done => rfl
          | bad k st x n bl p h hn hf => simp at e
          | step k st x n bl p h r hn hf hr => simp at e
        rw [hinv _ rfl hrun]
        exact ⟨rfl, v, hrp⟩)
      clear hrun hrow hrel hrp hbe hbn hxn hpn hhn hnl hle HMIN
      go_wp2
      rw [HP.out]
      exact HFIN.out
    · rw [List.concat_eq_append] at hz0
      subst hz0
      obtain ⟨hlx, hrs, hp1⟩ := hrel.init
      obtain ⟨mm, hm⟩ : ∃ mm, mm = st.length := ⟨_, rfl⟩
      rw [← hm] at hlx hrs hp1
      have hnm : n = mm + 1 := by rw [hnl, hlx]
      obtain ⟨X, hX⟩ : ∃ X, X = xs.getD mm pl0 := ⟨_, rfl⟩
      rw [← hX] at hp1
      have hC : Kd.C kPl wr A n xs := by rw [hnl]; exact (Kd.R_reads' hrow).2.2
      obtain ⟨bt, ot, rfl, hbt, hat⟩ := CL_at hC (by omega)
      obtain ⟨hXo, hXr⟩ := hat mm (by omega)
      rw [← hX] at hXo hXr
      obtain ⟨cx, hcx⟩ : ∃ c, c = encL X := ⟨_, rfl⟩
      obtain ⟨cp, hcp⟩ : ∃ c, c = encP X.at_ := ⟨_, rfl⟩
      rw [← hcx] at hXr
      have HXR := Aside0.mk hXr
      have HCX := Aside0.mk (And.intro hcx (And.intro (show cx.size = 41 by rw [hcx]; exact encL_size hXo) (show cx.all (·.oneCell') = true by rw [hcx]; exact encL_one X)))
      have HCP := Aside0.mk (And.intro hcp (And.intro (show cp.size = 36 by rw [hcp]; exact encP_size hXo.len) (And.intro hXo (show ∀ i, i < cp.size → cx[i]? = cp[i]? by
        intro i hi
        rw [hcx, hcp]
        exact encL_lo hXo (by rw [hcp, encP_size hXo.len] at hi; exact hi)))))
      have HP1 := Aside0.mk hp1
      have HRS := Aside0.mk hrs
      have HROW := Aside0.mk (show Kd.R kPl 167 wr w.heap.size (fun _ => True) (.slice (some ⟨bt, ot, none⟩) mm c) (xs.take mm) from Kd.R_take hrow (by omega))
      have HXS := Aside0.mk (And.intro hlx hnm)
      have HRUN := Aside0.mk hrun
      have HRP := Aside0.mk hrp
      have HKE := Aside0.mk hbe
      have HBE := Aside0.mk (show Below wB.heap.size wB wr from HBB.out.trans (hbe.to_below (fun q hq => by rw [hq]; exact HGB.out) HBB.out.size))
      have HNUM := Aside0.mk (And.intro hbn (And.intro hxn (And.intro hpn hhn)))
      have hnb : n ≤ 100000000 := by omega
      have d0 : decide ((0 : Int) < (n : Int)) = true := decide_eq_true (by omega)
      have e1 : (n : Int) - 1 = (mm : Int) := by omega
      have hi0 : mm < n := by omega
      have hcut := cutL (some ⟨bt, ot, none⟩) n c mm (by omega) hle
      have HMS := Aside0.mk hm
      obtain ⟨g13, hg13⟩ : ∃ g, g = wr.heap.size := ⟨_, rfl⟩
      have hal := HAL.out wr
      have HG13 := Aside0.mk (show (wr.alloc (.cells z 167)).heap[g13]? = some (.cells z 167 (0, 0)) by rw [hg13]; exact blk_new wr _)
      clear hrun hrow hrel hrp hbe hbn hxn hpn hhn hnl hle hlx hrs hp1 hnm hX hC hat hXo hXr hcx hcp hm
      go_upto_region 7 with (first | (refine wpList_store_row rfl 167 (.tmp 13) (.tmp 41) rfl g13 cx (by show Value.pointer _ = _; rw [hg13]) rfl 167 z HG13.out (by rw [size167, HCX.out.2.1]) (by rw [HCX.out.2.1, HZS.out.1]) HCX.out.2.2 ?_) | (refine load_cs rfl 167 (.tmp 40) rfl bt (ot + mm * 41) cx _ rfl HXR.out Tryz.underlying167 rfl (by rw [HCX.out.2.1]; exact size167) ?_))
      dsimp only [Act.put]
      obtain ⟨Wr1, hWr1⟩ : ∃ W, W = (wr.alloc (.cells z 167)).setRow g13 cx := ⟨_, rfl⟩
      have HB1 := Aside0.mk (show Below wr.heap.size wr Wr1 by
        rw [hWr1]
        exact (KB_setRow (KB.of_below (below_alloc (Below.refl wr.heap.size wr) (.cells z 167)) (fun _ => False)) (by rw [hg13]; exact Nat.le_refl _) cx).to_below (fun k h => h.elim) (Nat.le_refl _))
      have HC1 := Aside0.mk (show Wr1.heap[g13]? = some (.cells cx 167 (0, 0)) by rw [hWr1]; exact setRow_heap _ g13 z cx 167 _ HG13.out)
      have HGE := Aside0.mk hg13
      rw [← hWr1, ← hg13]
      clear hWr1 hg13 hal HG13 d0 e1 hi0
      have hmb : mm ≤ 100000000 := by have := HXS.out; omega
      have e1 : (n : Int) - 1 = (mm : Int) := by have := HXS.out; omega
      go_upto_region 9 with (first | ((with_reducible refine (true44 cp _).mono ?_); rintro e w' ⟨rfl, hb2⟩) | (refine load_cs rfl 32 (.tmp 48) rfl g13 0 cp _ rfl (range_pre HC1.out HCP.out.2.2.2) underl56 rfl (by rw [HCP.out.2.1]; kernel_rfl) ?_))
      have HB2 := Aside0.mk (below_then HB1.out HB1.out.size hb2)
      have HC2 := Aside0.mk (blk_below HC1.out hb2)
      clear hb2 HB1 HC1 hcut
      obtain ⟨k', nd, hkk, hnod, hfit⟩ := HRUN.out.inv
      have hq : X.at_ = x.at_ := HP1.out.at_
      rw [← hq] at hnod hfit
      have HND := Aside0.mk hnod
      have HFIT := Aside0.mk (And.intro hkk hfit)
      have HBE2 := Aside0.mk (below_then HBE.out HBE.out.size HB2.out)
      have T := load49 p d m lb a mw N fr tu rs l ep kv rd nd X.at_ w' (HV.out.below HBE2.out) HNN.out.1 HNN.out.2 hnod.1 hnod.2.1 hnod.2.2.1 hnod.2.2.2
      rw [← HCP.out.1] at T
      clear hkk hnod hfit hq
      go_wp2_with (refine load_cs rfl 32 (.tmp 54) rfl g13 0 cp _ rfl (range_pre HC2.out HCP.out.2.2.2) underl56 rfl (by rw [HCP.out.2.1]; kernel_rfl) ?_)
      refine T.mono ?_
      clear T
      rintro e W3 ⟨s, ts, rfl, hnf, hb3⟩
      obtain ⟨cn, hcn⟩ : ∃ c, c = encN nd s := ⟨_, rfl⟩
      have HCN := Aside0.mk (And.intro hcn (And.intro (show cn.size = 4 by rw [hcn]; rfl) (show cn.all (·.oneCell') = true by rw [hcn, ← Array.all_toList]; rfl)))
      rw [← hcn]
      obtain ⟨g14, hg14⟩ : ∃ g, g = W3.heap.size := ⟨_, rfl⟩
      have HG14 := Aside0.mk (show (W3.alloc (.cells Zn 39)).heap[g14]? = some (.cells Zn 39 (0, 0)) by rw [hg14]; exact blk_new W3 _)
      have HNF := Aside0.mk hnf
      have HB3 := Aside0.mk (below_then HB2.out HB2.out.size hb3)
      have HC3 := Aside0.mk (blk_below HC2.out hb3)
      have HB3W := Aside0.mk hb3
      clear hcn hnf hb3 HC2
      go_upto_region 10 with (refine wpList_store_row rfl 39 (.tmp 14) (.tmp 57) rfl g14 cn (by show Value.pointer _ = _; rw [hg14]) rfl 39 _ HG14.out (by rw [HCN.out.2.1]; kernel_rfl) (by rw [HCN.out.2.1]; rfl) HCN.out.2.2 ?_)
      rw [← hg14]
      obtain ⟨W4, hW4⟩ : ∃ W, W = (W3.alloc (.cells Zn 39)).setRow g14 cn := ⟨_, rfl⟩
      have hb34 : Below W3.heap.size W3 W4 := by
        rw [hW4]
        exact (KB_setRow (KB.of_below (below_alloc (Below.refl W3.heap.size W3) (.cells Zn 39)) (fun _ => False)) (by rw [hg14]; exact Nat.le_refl _) cn).to_below (fun k h => h.elim) (Nat.le_refl _)
      have HB4 := Aside0.mk (below_then HB3.out HB3.out.size hb34)
      have HC4 := Aside0.mk (blk_below HC3.out hb34)
      have HD4 := Aside0.mk (show W4.heap[g14]? = some (.cells cn 39 (0, 0)) by rw [hW4]; exact setRow_heap _ g14 _ cn 39 _ HG14.out)
      have HNF4 := Aside0.mk (HNF.out.below hb34)
      have HLB := Aside0.mk (show wr.heap.size ≤ w'.heap.size from HB2.out.size)
      have HG14L := Aside0.mk (show W3.heap.size ≤ g14 by rw [hg14]; exact Nat.le_refl _)
      have HL34 := Aside0.mk (show w'.heap.size ≤ W3.heap.size ∧ wr.heap.size ≤ W3.heap.size from ⟨HB3W.out.size, HB3.out.size⟩)
      rw [← hW4]
      clear hb34 hW4 hg14 HG14
      go_upto_region 12 with (fail)
      have T2 := fits85 X x.f x.b nd s W4 HCP.out.2.2.1 (by have := HND.out.2.2.1.bounds; omega) HNF4.out.now.nv HND.out.2.1.shape (HP1.out.fr.kept (K5.of_below HB4.out)) (HP1.out.be.kept (K5.of_below HB4.out)) HP1.out.bf HP1.out.bb
      rw [← HCX.out.1, ← HCN.out.1, fit_eq HP1.out nd] at T2
      obtain ⟨fb, hfb⟩ : ∃ b, b = fitA x nd := ⟨_, rfl⟩
      rw [← hfb] at T2
      have HFB := Aside0.mk hfb
      clear hfb
      go_wp2_with (first | (refine load_cs rfl 39 (.tmp 14) rfl g14 0 cn _ rfl (range_pre HD4.out (fun _ _ => rfl)) Tryz.underlying39 rfl (by rw [HCN.out.2.1]; kernel_rfl) ?_) | (refine load_cs rfl 167 (.tmp 13) rfl g13 0 cx _ rfl (range_pre HC4.out (fun _ _ => rfl)) Tryz.underlying167 rfl (by rw [HCX.out.2.1]; exact size167) ?_))
      refine T2.mono ?_
      clear T2
      rintro e W5 ⟨rfl, hb5⟩
      have HB5 := Aside0.mk (below_then HB4.out HB4.out.size hb5)
      have HC5 := Aside0.mk (blk_below HC4.out hb5)
      have HD5 := Aside0.mk (blk_below HD4.out hb5)
      have HNF5 := Aside0.mk (HNF4.out.below hb5)
      clear hb5 HC4 HD4 HNF4
      cases fb with
      | false =>
        have HFIN := Aside0.mk (show WkOut w gb r (.returned (.int .i64 11)) W5 by
          refine ⟨HKE.out.below HB5.out, ?_⟩
          rcases HFIT.out.2 with ⟨_, e⟩ | ⟨e, _⟩
          · rw [e]
          · rw [← HFB.out] at e; cases e)
        go_wp2
        rw [HP.out]
        exact HFIN.out
      | true =>
        obtain ⟨hkk, hrun'⟩ : k = k' + 1 ∧ Run (Nod rd N) k' (st ++ downA x nd) (bl ++ [X.at_]) (pN + pairs nd) (max hH ((nd.lvl : Int) + 1)) r := by
          refine ⟨HFIT.out.1, ?_⟩
          rcases HFIT.out.2 with ⟨e, _⟩ | ⟨_, e⟩
          · rw [← HFB.out] at e; cases e
          · exact e
        have HRUN' := Aside0.mk hrun'
        have HKK := Aside0.mk hkk
        have HRP5 := Aside0.mk (HRP.out.below HB5.out)
        have hnum := HNUM.out
        have T3 := met45 w.heap.size gb v bl pN hH X.at_ nd s W5 HRP5.out (Nat.le_trans HKE.out.kept.1 HB5.out.size) HCP.out.2.2.1 HND.out.2.1.shape (by omega) (by omega) (by omega)
        rw [← HCP.out.1, ← HCN.out.1] at T3
        clear hrun' hkk hnum
        go_upto_region 14 with (fail)
        go_wp2_with (first | (refine load_cs rfl 39 (.tmp 14) rfl g14 0 cn _ rfl (range_pre HD5.out (fun _ _ => rfl)) Tryz.underlying39 rfl (by rw [HCN.out.2.1]; kernel_rfl) ?_) | (refine load_cs rfl 32 (.tmp 67) rfl g13 0 cp _ rfl (range_pre HC5.out HCP.out.2.2.2) underl56 rfl (by rw [HCP.out.2.1]; kernel_rfl) ?_))
        refine T3.mono ?_
        clear T3
        rintro e W6 ⟨v', rfl, hrp6, hk6, ho6⟩
        have HRP6 := Aside0.mk hrp6
        have hvl := Kd.R_lt HRP.out.row
        have hg13w : wr.heap.size ≤ g13 := by rw [HGE.out]; exact Nat.le_refl _
        have hgbw := blk_lt HRP.out.blk
        have hsz := HB5.out.size
        have HC6 := Aside0.mk (blk_kept HC5.out hk6.kept (by
          rintro (e | e)
          · omega
          · have := hvl g13 e.symm; omega))
        have HD6 := Aside0.mk (blk_kept HD5.out hk6.kept (by
          have h1 := HG14L.out
          have h2 := HL34.out
          rintro (e | e)
          · omega
          · have := hvl g14 e.symm; omega))
        have HNF6 := Aside0.mk (HNF5.out.kept hk6.kept (fun q hq hS => by
          have h2 := HL34.out
          have h3 := HLB.out
          rcases hS with e | e
          · refine ⟨by omega, fun cs fz e2 => ?_⟩
            rw [e, HRP5.out.blk] at e2
            injection e2 with e2
            injection e2 with _ e2 _
            exact absurd e2 (by decide)
          · refine ⟨by have := hvl q e.symm; omega, fun cs fz e2 => ?_⟩
            exact own5 HRP5.out.row e.symm cs fz e2))
        have K6 : K5 W5 W6 := K5.of_kept hk6.kept (fun q hS cs fz e2 => by
          rcases hS with e | e
          · rw [e, HRP5.out.blk] at e2
            injection e2 with e2
            injection e2 with _ e2 _
            exact absurd e2 (by decide)
          · exact own5 HRP5.out.row e.symm cs fz e2)
        have HK6 := Aside0.mk (show K5 wr W6 from (K5.of_below HB5.out).then_ K6)
        have hb56 : Below wB.heap.size W5 W6 := hk6.to_below (fun q hS => by
          rcases hS with e | e
          · rw [e]; exact HGB.out
          · exact Nat.le_trans HBB.out.size (Kd.R_base HRP.out.row q e.symm)) (Nat.le_trans HBE.out.size HB5.out.size)
        have HKE6 := Aside0.mk (show KB w W6 (fun q => q = gb) from (HKE.out.below HB5.out).then_ hk6 (fun q hS => by
          rcases hS with e | e
          · exact .inl e
          · exact .inr (Kd.R_base HRP.out.row q e.symm)))
        have HBE6 := Aside0.mk (show Below wB.heap.size wB W6 from (below_then HBE.out HBE.out.size HB5.out).trans hb56)
        have HROW6 := Aside0.mk (show Kd.R kPl 167 W6 w.heap.size (fun _ => True) (.slice (some ⟨bt, ot, none⟩) mm c) (xs.take mm) from by
          have h5 := Kd.R_below HROW.out HB5.out
          refine Kd.R_mono (Kd.R_step (Kd.R_tight rfl h5) (fun q hq hlt => hk6.kept.2 q hlt ?_)) (fun _ _ => trivial)
          rintro (e | e)
          · rw [e] at hq
            exact Kd.R_ne h5 HRP5.out.blk (by decide) hq
          · obtain ⟨_, _, _, t, ht, cells, hh⟩ := (Kd.R_bound h5).1 q hq.symm
            have ht2 : t = 167 := by simpa [show kPl.E = [] from rfl] using ht
            subst ht2
            exact Kd.R_ne HRP5.out.row hh (by decide) e)
        have T4 := kids86 X nd s ts W6 HCP.out.2.2.1 HNF6.out.now HND.out.2.1.shape
        rw [← HCX.out.1, ← HCN.out.1] at T4
        clear hrp6 hk6 ho6 hvl hg13w hgbw hsz K6 hb56
        go_upto_region 15 with (fail)
        go_wp2_with (first | (refine load_cs rfl 39 (.tmp 14) rfl g14 0 cn _ rfl (range_pre HD6.out (fun _ _ => rfl)) Tryz.underlying39 rfl (by rw [HCN.out.2.1]; kernel_rfl) ?_) | (refine load_cs rfl 167 (.tmp 13) rfl g13 0 cx _ rfl (range_pre HC6.out (fun _ _ => rfl)) Tryz.underlying167 rfl (by rw [HCX.out.2.1]; exact size167) ?_))
        refine T4.mono ?_
        clear T4
        rintro e W7 ⟨v7, rfl, hr7, hb7⟩
        obtain ⟨A7, c7, rfl, hl7, hC7⟩ := Kd.R_reads hr7
        obtain ⟨ys, hys⟩ : ∃ ys, ys = downL X nd ts 0 := ⟨_, rfl⟩
        obtain ⟨n7, hn7⟩ : ∃ n, n = ys.length := ⟨_, rfl⟩
        rw [← hys, ← hn7] at hC7 ⊢
        have HYS := Aside0.mk (And.intro hys (And.intro hn7 (show n7 ≤ 1000 by
          rw [hn7, hys, downL, List.length_map, List.length_range]
          have hLi := HND.out.2.1.shape.lists
          have hmo := HND.out.2.1.shape.most
          unfold Lists at hLi
          split at hLi <;> omega)))
        have HC7 := Aside0.mk hC7
        have HB7 := Aside0.mk hb7
        have HROW7 := Aside0.mk (Kd.R_below HROW6.out hb7)
        have HBE7 := Aside0.mk (below_then HBE6.out HBE6.out.size hb7)
        have hl8 : (xs.take mm).length + n7 ≤ 1000000000 := by have := HYS.out; have := HNUM.out; rw [List.length_take]; omega
        have hz7 : w.heap.size ≤ W7.heap.size := Nat.le_trans HKE6.out.kept.1 hb7.size
        have HKE7 := Aside0.mk (HKE6.out.below hb7)
        clear hb7 hr7 hl7 hC7 hys hn7
        go_wp2_with (at_builtin; refine appendRow_L (w0 := W7) w.heap.size rfl (fun _ => True) (.tmp 71) (.tmp 74) rfl _ (xs.take mm) ys A7 n7 c7 rfl rfl HROW7.out HC7.out (fun _ _ => trivial) (Below.refl _ _) hz7 hl8 ?_; intro v8 W8 hr8 hb8 hg8 ho8; obtain ⟨A8, c8, rfl, hl8', hC8⟩ := Kd.R_reads hr8; clear hl8' hC8; generalize hn8 : (xs.take mm ++ ys).length = n8 at *; have HN8 := Aside0.mk hn8; clear hn8; have H8 := Aside0.mk (And.intro hr8 (And.intro hb8 (And.intro hg8 ho8))); clear hr8 hb8 hg8 ho8)
        have HWS := Aside0.mk (show WS w gb (Nod rd N) r k' (.slice A8 n8 c8) W8 by
          obtain ⟨hr8, hb8, hg8, ho8⟩ := H8.out
          have hk5 : K5 W7 W8 := K5.grown HROW7.out hg8 (by decide)
          have hk58 : K5 wr W8 := (HK6.out.then_ (K5.of_below HB7.out)).then_ hk5
          have hrp7 := HRP6.out.below HB7.out
          have hgk : Kept W7 W8 (fun q => some q = (Value.slice (some ⟨bt, ot, none⟩) mm c).ownBlock) := ⟨hg8.size, fun i hi hn => hg8.block i hi hn⟩
          have hnum := HNUM.out
          have hxs := HXS.out
          have hys := HYS.out
          refine ⟨xs.take mm ++ ys, st ++ downA x nd, bl ++ [X.at_], _, _, v', HRUN'.out, hr8, ?_, ?_, HKE7.out.then_ (KB.mk hg8.os hg8.tape hg8.output hgk) (fun q hS => .inr (Kd.R_base HROW7.out q hS.symm)), ?_, ?_, ?_, ?_⟩
          · refine (HRS.out.kept hk58).append ?_
            rw [hys.1]
            exact Rel.kids (HP1.out.kept hk58) HND.out.2.1.shape ((HNF6.out.now.el.kept (K5.of_below HB7.out)).kept hk5)
          · refine hrp7.kept hgk (fun e => Kd.R_ne HROW7.out hrp7.blk (by decide) e) (fun q hq e => ?_)
            obtain ⟨_, _, _, t, ht, cells, hh⟩ := (Kd.R_bound hrp7.row).1 q hq
            have ht2 : t = 32 := by simpa [show kP.E = [] from rfl] using ht
            subst ht2
            exact Kd.R_ne HROW7.out hh (by decide) e
          · have := HKK.out; rw [List.length_append, List.length_singleton]; omega
          · rw [List.length_append, List.length_take, List.length_append, List.length_singleton, ← hys.2.1]; omega
          · have hpb : 0 ≤ pairs nd ∧ pairs nd ≤ 1000 := by
              have hmo := HND.out.2.1.shape.most
              unfold pairs
              split <;> omega
            rw [List.length_append, List.length_singleton]
            omega
          · have := HND.out.2.1.shape.lvl
            omega)
        go_roundw
        case rel => exact ⟨k', _, _, _, rfl, HWS⟩
        case measure =>
          have h1 := leastK_le (Q := fun k => WS w gb (Nod rd N) r k (.slice A8 n8 c8) W8) HWS.out
          have h2 := HMIN.out
          have h3 := HKK.out
          rw [← h2]
          exact Nat.lt_of_le_of_lt h1 (by omega)
def RepOut (w : World) (r : Option (List Ptr × Int × Int)) (e : Ending) (w' : World) : Prop :=
  Below w.heap.size w w' ∧ match r with
  | some (bl, p, h) => ∃ A c, e = .returned (.tuple #[.agg #[.slice A bl.length c, .int .i64 p, .int .i64 h], .int .i64 0])
  | none => e = .returned (.tuple #[.agg #[.slice none 0 0, .int .i64 0, .int .i64 0], .int .i64 11])
set_option maxRecDepth 100000 in
set_option maxHeartbeats 16000000 in
theorem walk12 (p d m lb a mw N : Nat) (fr tu rs : Int) (l : List Sp) (ep : Int) (kv : Value) (rd : Int → List Int) (root : Ptr) (K : Nat) (r : Option (List Ptr × Int × Int)) (w : World)
    (h : PV w p d m lb a mw N fr tu rs l ep kv rd) (hN : 0 < N) (htu : fr < tu) (hq : Ok root) (hnz : root ≠ zeroP) (hK : K ≤ 70000) (hrun : Run (Nod rd N) K [⟨root, -1, 0, [], [], false⟩] [] 0 0 r) :
    Calls Tryz.prog 12 #[.pointer (some ⟨p, 0, none⟩), .agg (encP root)] w (RepOut w r) := by
  obtain ⟨P, hP⟩ : ∃ P : Ending → World → Prop, P = RepOut w r := ⟨_, rfl⟩
  rw [← hP]
  have HP := Aside0.mk hP
  clear hP
  obtain ⟨cq, hcq⟩ : ∃ cs, cs = encP root := ⟨_, rfl⟩
  have HCQ := Aside0.mk (And.intro hcq (And.intro (show cq.size = 36 by rw [hcq]; exact encP_size hq.len) hq))
  obtain ⟨g3, hg3⟩ : ∃ g, g = w.heap.size := ⟨_, rfl⟩
  obtain ⟨W0, hW0⟩ : ∃ W, W = ((w.alloc (.cells cq 32)).alloc (.cells #[.slice none 0 0, .int .i64 0, .int .i64 0] 41)).alloc (.cells #[.slice none 0 0, .int .i64 0, .int .i64 0] 41) := ⟨_, rfl⟩
  have HB0 := Aside0.mk (show Below w.heap.size w W0 by rw [hW0]; exact below_alloc (below_alloc (below_alloc (Below.refl _ _) _) _) _)
  have HG3 := Aside0.mk (show W0.heap[g3]? = some (.cells cq 32 (0, 0)) by rw [hW0, hg3]; exact blk_alloc (blk_alloc (blk_new w _) _) _)
  have HG4 := Aside0.mk (show W0.heap[g3 + 1]? = some (.cells #[.slice none 0 0, .int .i64 0, .int .i64 0] 41 (0, 0)) by rw [hW0, hg3]; have := blk_new (w.alloc (.cells cq 32)) (.cells #[.slice none 0 0, .int .i64 0, .int .i64 0] 41); exact blk_alloc (by simpa using this) _)
  have HG6 := Aside0.mk (show W0.heap[g3 + 1 + 1]? = some (.cells #[.slice none 0 0, .int .i64 0, .int .i64 0] 41 (0, 0)) by rw [hW0, hg3]; have := blk_new ((w.alloc (.cells cq 32)).alloc (.cells #[.slice none 0 0, .int .i64 0, .int .i64 0] 41)) (.cells #[.slice none 0 0, .int .i64 0, .int .i64 0] 41); simpa using this)
  have T := walk43 w p d m lb a mw N fr tu rs l ep kv rd (g3 + 1 + 1) root K r W0 h hN htu (by omega) HB0.out ⟨HG6.out, Kd.R_nil _ _ _ _ _⟩ hq hnz hK hrun
  rw [← hcq] at T ⊢
  have HG3E := Aside0.mk hg3
  clear h hN htu hq hnz hK hrun hcq
  go_enter Tryz.func12, Tryz.ntmps12
  go_upto_region 2 with (fail)
  rw [← hg3, ← hW0]
  clear hg3 hW0
  go_wp2_with (refine load_cs rfl 32 (.tmp 3) rfl g3 0 cq _ rfl (range_pre HG3.out (fun _ _ => rfl)) underl56 rfl (by rw [HCQ.out.2.1]; kernel_rfl) ?_)
  refine T.mono ?_
  clear T
  rintro e W1 ⟨hk1, hr1⟩
  have HB1 := Aside0.mk (show Below w.heap.size w W1 from HB0.out.trans (hk1.to_below (fun q hq => by rw [hq]; have := HG3E.out; omega) HB0.out.size))
  have HR4 := Aside0.mk (blk_kept HG4.out hk1.kept (by omega))
  have hfin : ∀ cs, Below w.heap.size w (W1.setRow (g3 + 1) cs) := fun cs => (KB_setRow (KB.of_below HB1.out (fun _ => False)) (by have := HG3E.out; omega) cs).to_below (fun k h => h.elim) (Nat.le_refl _)
  have HFIN := Aside0.mk hfin
  clear hk1 hfin
  cases r with
  | none =>
    have he : e = .returned (.int .i64 11) := hr1
    subst he
    clear hr1
    go_upto_region 4 with (fail)
    go_wp2_with (refine wpList_store_same rfl 41 (.tmp 4) (.tmp 14) rfl (g3 + 1) #[.slice none 0 0, .int .i64 0, .int .i64 0] rfl rfl 41 HR4.out (by kernel_rfl) (by kernel_rfl) ?_)
    refine bodyPost_ret (res_ct (p := 4) (q := 5) _ rfl rfl HR4.out Tryz.underlying41 rfl (by kernel_rfl)) rfl ?_
    rw [HP.out]
    exact ⟨HB1.out, rfl⟩
  | some t =>
    obtain ⟨bl, pN, hH⟩ := t
    obtain ⟨he, v, hrp⟩ : e = .returned (.int .i64 0) ∧ ∃ v, RP W0.heap.size (g3 + 1 + 1) v bl pN hH W1 := hr1
    subst he
    obtain ⟨A1, c1, rfl⟩ := Kd.R_slice hrp.row
    obtain ⟨nb, hnb⟩ : ∃ n, n = bl.length := ⟨_, rfl⟩
    have hg6 := hrp.blk
    rw [← hnb] at hg6
    have HNB := Aside0.mk hnb
    obtain ⟨cr, hcr⟩ : ∃ cs : Array Value, cs = #[.slice A1 nb c1, .int .i64 pN, .int .i64 hH] := ⟨_, rfl⟩
    rw [← hcr] at hg6
    have HG61 := Aside0.mk hg6
    have HCR := Aside0.mk (And.intro hcr (And.intro (show cr.size = 3 by rw [hcr]; rfl) (show cr.all (·.oneCell') = true by rw [hcr, ← Array.all_toList]; rfl)))
    clear hrp hnb hcr hg6
    go_upto_region 5 with (fail)
    go_wp2_with (first | (refine wpList_store_row rfl 41 (.tmp 4) (.tmp 16) rfl (g3 + 1) cr rfl rfl 41 _ HR4.out (by rw [HCR.out.2.1]; kernel_rfl) (by rw [HCR.out.2.1]; rfl) HCR.out.2.2 ?_) | (refine load_cs rfl 41 (.tmp 6) rfl (g3 + 1 + 1) 0 cr _ rfl (range_pre HG61.out (fun _ _ => rfl)) Tryz.underlying41 rfl (by rw [HCR.out.2.1]; kernel_rfl) ?_))
    refine bodyPost_ret (res_ct (p := 4) (q := 5) _ rfl rfl (setRow_heap _ (g3 + 1) _ cr 41 _ HR4.out) Tryz.underlying41 rfl (by rw [HCR.out.2.1]; kernel_rfl)) rfl ?_
    rw [HP.out]
    exact ⟨HFIN.out _, A1, c1, by rw [HCR.out.1, HNB.out]; rfl⟩
end Go.Proofs.YtchhdafgmifhdaaGreat.WlkK
namespace Go.Proofs.YtchhdafgmifhdaaGreat.FrmA
open Go.RowKit Go.Proofs.YtchhdafgmifhdaaGreat.B8 Go.Proofs.YtchhdafgmifhdaaGreat.Agg Go.Proofs.YtchhdafgmifhdaaGreat.CodL Go.Proofs.YtchhdafgmifhdaaGreat.CodA Go.Proofs.YtchhdafgmifhdaaGreat.CodB Go.Proofs.YtchhdafgmifhdaaGreat.CrcL Go.Proofs.YtchhdafgmifhdaaGreat.CrcA Go.Proofs.YtchhdafgmifhdaaGreat.CrcB Go.Proofs.YtchhdafgmifhdaaGreat.PVerifyForms Go.Proofs.YtchhdafgmifhdaaGreatW.PrintWords Go.Proofs.YtchhdafgmifhdaaGreatW.PrintLast Go.Proofs.YtchhdafgmifhdaaGreatW.PrintMore Go.Proofs.YtchhdafgmifhdaaGreat.CatL Go.Proofs.YtchhdafgmifhdaaGreat.PtrA Go.Proofs.YtchhdafgmifhdaaGreat.PtrB Go.Proofs.YtchhdafgmifhdaaGreat.PtrE Go.Proofs.YtchhdafgmifhdaaGreat.PtrF Go.Proofs.YtchhdafgmifhdaaGreat.OfA Go.Proofs.YtchhdafgmifhdaaGreat.ExtL Go.Proofs.YtchhdafgmifhdaaGreat.ExtA Go.Proofs.YtchhdafgmifhdaaGreat.ExtF Go.Proofs.YtchhdafgmifhdaaGreat.ExtG Go.Proofs.YtchhdafgmifhdaaGreat.KpA Go.Proofs.YtchhdafgmifhdaaGreat.LeaA Go.Proofs.YtchhdafgmifhdaaGreat.LeaC Go.Proofs.YtchhdafgmifhdaaGreat.LeaD Go.Proofs.YtchhdafgmifhdaaGreat.LeaF Go.Proofs.YtchhdafgmifhdaaGreat.StrL Go.Proofs.YtchhdafgmifhdaaGreat.MetK Go.Proofs.YtchhdafgmifhdaaGreat.RunK Go.Proofs.YtchhdafgmifhdaaGreat.BrdK Go.Proofs.YtchhdafgmifhdaaGreat.BlkK Go.Proofs.YtchhdafgmifhdaaGreat.WlkK Go.Proofs.YtchhdafgmifhdaaGreat.DskK Go.Proofs.YtchhdafgmifhdaaGreat.CmpK
set_option linter.unusedVariables false
set_option linter.unusedSimpArgs false
def Lw : Nd := ⟨0, [[98], [100]], [[49], [50]], []⟩
def Hg : Nd := ⟨0, [[102]], [[51]], []⟩
def Rt (q : Nat) (a b : Ptr) : Nd := ⟨if q = 1 then 2 else 1, [if q = 2 then [97] else [98], if q = 3 then [99] else [102]], [], [a, b]⟩
theorem len_lw : (nodeL Lw).length = 12 := by
  simp [nodeL, itemsL, itemL, prevK, sharedL, shB, Lw, shortL_small]
theorem len_hg : (nodeL Hg).length = 7 := by
  simp [nodeL, itemsL, itemL, prevK, sharedL, shB, Hg, shortL_small]
theorem byt1 (x : Int) (h : 0 ≤ x ∧ x < 256) : Byt [x] := fun y hy => by
  obtain rfl : y = x := by simpa using hy
  exact h
theorem rightLw : RightN Lw := by
  refine ⟨⟨by decide, by decide, by decide, by simp [Lists, Lw], ?_, ?_, ?_, ?_⟩, by rw [len_lw]; decide⟩
  · intro k hk
    simp only [Lw, List.mem_cons, List.not_mem_nil, or_false] at hk
    rcases hk with rfl | rfl <;> exact ⟨by decide, byt1 _ (by decide)⟩
  · intro i hi
    obtain rfl : i = 0 := by simp [Lw] at hi; omega
    decide
  · intro k hk
    simp only [Lw, List.mem_cons, List.not_mem_nil, or_false] at hk
    rcases hk with rfl | rfl <;> exact ⟨by decide, byt1 _ (by decide)⟩
  · intro p hp
    simp [Lw] at hp
theorem rightHg : RightN Hg := by
  refine ⟨⟨by decide, by decide, by decide, by simp [Lists, Hg], ?_, ?_, ?_, ?_⟩, by rw [len_hg]; decide⟩
  · intro k hk
    simp only [Hg, List.mem_cons, List.not_mem_nil, or_false] at hk
    rcases hk with rfl <;> exact ⟨by decide, byt1 _ (by decide)⟩
  · intro i hi
    simp [Hg] at hi
  · intro k hk
    simp only [Hg, List.mem_cons, List.not_mem_nil, or_false] at hk
    rcases hk with rfl <;> exact ⟨by decide, byt1 _ (by decide)⟩
  · intro p hp
    simp [Hg] at hp
theorem len_rt {q : Nat} {a b : Ptr} (ha : Ok a) (hb : Ok b) : (nodeL (Rt q a b)).length = 112 := by
  have h1 := ptrL_len ha
  have h2 := ptrL_len hb
  by_cases q1 : q = 1
  · subst q1
    simp [nodeL, itemsL, itemL, prevK, sharedL, shB, Rt, shortL_small, h1, h2]
  · by_cases q2 : q = 2
    · subst q2
      simp [nodeL, itemsL, itemL, prevK, sharedL, shB, Rt, shortL_small, h1, h2]
    · by_cases q3 : q = 3
      · subst q3
        simp [nodeL, itemsL, itemL, prevK, sharedL, shB, Rt, shortL_small, h1, h2]
      · simp [nodeL, itemsL, itemL, prevK, sharedL, shB, Rt, shortL_small, h1, h2, q1, q2, q3]
theorem rightRt {q : Nat} {a b : Ptr} (hq : q ≤ 3) (ha : Ok a ∧ Right a) (hb : Ok b ∧ Right b) : RightN (Rt q a b) := by
  refine ⟨⟨?_, by show 0 < 2; decide, by show 2 ≤ 1000; decide, ?_, ?_, ?_, ?_, ?_⟩, by rw [len_rt ha.1 hb.1]; decide⟩
  · show (if q = 1 then 2 else 1) ≤ 12
    split <;> decide
  · unfold Lists
    rw [if_neg (by show ¬ (if q = 1 then 2 else 1) = 0; split <;> decide)]
    exact ⟨rfl, rfl⟩
  · intro k hk
    simp only [Rt, List.mem_cons, List.not_mem_nil, or_false] at hk
    rcases hk with rfl | rfl <;> (split <;> exact ⟨by decide, byt1 _ (by decide)⟩)
  · intro i hi
    obtain rfl : i = 0 := by simp [Rt] at hi; omega
    show cmpL (if q = 2 then [97] else [98]) (if q = 3 then [99] else [102]) < 0
    split <;> split <;> decide
  · intro k hk
    simp [Rt] at hk
  · intro p hp
    simp only [Rt, List.mem_cons, List.not_mem_nil, or_false] at hp
    rcases hp with rfl | rfl
    · exact ha
    · exact hb
/-- A block stays where another one is written elsewhere. -/
theorem Holds.put {rd : Int → List Int} {p : Ptr} {L L2 : List Int} {x : Int} (h : Holds rd p L) (hd : p.at_ + ((L.length + 511) / 512 : Nat) ≤ x ∨ x + ((L2.length + 511) / 512 : Nat) ≤ p.at_) : Holds (putB rd x L2) p L := by
  refine ⟨h.of, fun q hq => ?_⟩
  rw [← h.at_ q hq]
  show putK rd x L2 ((L2.length + 511) / 512) (p.at_ + (q : Int)) = _
  unfold putK
  rw [if_neg (by omega)]
theorem right_of {f b : Int} {L : List Int} (hf : 2 ≤ f ∧ f < 8000) (hb : 1 ≤ b ∧ b ≤ 10) (hl : 1 ≤ L.length ∧ L.length ≤ 512) : Right (ofP f b L) := by
  have hs : sect (L.length : Int) = 1 := by unfold sect; rw [if_neg (by omega)]; omega
  refine ⟨?_, ?_, ?_, ?_, ?_⟩ <;> simp only [ofP] <;> omega
theorem nod_of {rd : Int → List Int} {N : Nat} {f b : Int} {x : Nd} (hh : Holds rd (ofP f b (nodeL x)) (nodeL x)) (hx : RightN x) (hf : 2 ≤ f ∧ f < 8000) (hb : 1 ≤ b ∧ b ≤ 10) (hl : 1 ≤ (nodeL x).length ∧ (nodeL x).length ≤ 512) (hN : f + 1 ≤ N) : Nod rd N (ofP f b (nodeL x)) x := by
  refine ⟨hh, hx, right_of hf hb hl, ?_⟩
  have hs : sect ((nodeL x).length : Int) = 1 := by unfold sect; rw [if_neg (by omega)]; omega
  show f + sect ((nodeL x).length : Int) ≤ N
  rw [hs]
  exact hN
/-- What the walk over the three of them comes to. -/
theorem run_of {Nd_ : Ptr → Nd → Prop} {a b c : Ptr} {q : Nat} (ha : Nd_ a Lw) (hb : Nd_ b Hg) (hc : Nd_ c (Rt q a b)) (hq : q ≤ 3) (hbad : q ≠ 0 ∨ c.birth < a.birth) : ∃ k, k ≤ 10 ∧ Run Nd_ k [⟨c, -1, 0, [], [], false⟩] [] 0 0 none := by
  refine ⟨2, by decide, Run.step 1 [] _ (Rt q a b) _ _ _ _ hc rfl ?_⟩
  have e : [] ++ downA ⟨c, -1, 0, [], [], false⟩ (Rt q a b) = [kidA ⟨c, -1, 0, [], [], false⟩ (Rt q a b) 1] ++ [kidA ⟨c, -1, 0, [], [], false⟩ (Rt q a b) 0] := rfl
  rw [e]
  refine Run.bad 0 _ _ Lw _ _ _ ha ?_
  have hcase : q = 0 ∨ q = 1 ∨ q = 2 ∨ q = 3 := by omega
  rcases hcase with rfl | rfl | rfl | rfl
  · have hlt : ¬ a.birth ≤ c.birth := by omega
    simp [fitA, kidA, Rt, Lw, hlt]
  · simp [fitA, kidA, Rt, Lw]
  · simp [fitA, kidA, Rt, Lw]
  · have h2 : ltL [100] [99] = false := by decide
    simp [fitA, kidA, Rt, Lw, h2]
theorem run_good {Nd_ : Ptr → Nd → Prop} {a b c : Ptr} (ha : Nd_ a Lw) (hb : Nd_ b Hg) (hc : Nd_ c (Rt 0 a b)) (h1 : a.birth ≤ c.birth) (h2 : b.birth ≤ c.birth) : ∃ k, k ≤ 10 ∧ Run Nd_ k [⟨c, -1, 0, [], [], false⟩] [] 0 0 (some ([c, a, b], 3, 2)) := by
  refine ⟨3, by decide, Run.step 2 [] _ (Rt 0 a b) _ _ _ _ hc rfl ?_⟩
  have e : [] ++ downA ⟨c, -1, 0, [], [], false⟩ (Rt 0 a b) = [kidA ⟨c, -1, 0, [], [], false⟩ (Rt 0 a b) 1] ++ [kidA ⟨c, -1, 0, [], [], false⟩ (Rt 0 a b) 0] := rfl
  rw [e]
  refine Run.step 1 _ _ Lw _ _ _ _ ha ?_ ?_
  · have h3 : ltL [100] [102] = true := by decide
    simp [fitA, kidA, Rt, Lw, h1, h3]
  · have e2 : [kidA ⟨c, -1, 0, [], [], false⟩ (Rt 0 a b) 1] ++ downA (kidA ⟨c, -1, 0, [], [], false⟩ (Rt 0 a b) 0) Lw = [] ++ [kidA ⟨c, -1, 0, [], [], false⟩ (Rt 0 a b) 1] := rfl
    rw [e2]
    refine Run.step 0 _ _ Hg _ _ _ _ hb ?_ ?_
    · simp [fitA, kidA, Rt, Hg, h2]
    · exact Run.done _ _ _
end Go.Proofs.YtchhdafgmifhdaaGreat.FrmA
namespace Go.Proofs.YtchhdafgmifhdaaGreat.AlcG
open Go.RowKit Go.Proofs.YtchhdafgmifhdaaGreat.B8 Go.Proofs.YtchhdafgmifhdaaGreat.Agg Go.Proofs.YtchhdafgmifhdaaGreat.CodL Go.Proofs.YtchhdafgmifhdaaGreat.CodA Go.Proofs.YtchhdafgmifhdaaGreat.CodB Go.Proofs.YtchhdafgmifhdaaGreat.CrcL Go.Proofs.YtchhdafgmifhdaaGreat.CrcA Go.Proofs.YtchhdafgmifhdaaGreat.CrcB Go.Proofs.YtchhdafgmifhdaaGreat.PVerifyForms Go.Proofs.YtchhdafgmifhdaaGreatW.PrintWords Go.Proofs.YtchhdafgmifhdaaGreatW.PrintLast Go.Proofs.YtchhdafgmifhdaaGreatW.PrintMore Go.Proofs.YtchhdafgmifhdaaGreat.ExtL Go.Proofs.YtchhdafgmifhdaaGreat.ExtA Go.Proofs.YtchhdafgmifhdaaGreat.ExtB Go.Proofs.YtchhdafgmifhdaaGreat.ExtC Go.Proofs.YtchhdafgmifhdaaGreat.ExtD Go.Proofs.YtchhdafgmifhdaaGreat.ExtE Go.Proofs.YtchhdafgmifhdaaGreat.ExtF Go.Proofs.YtchhdafgmifhdaaGreat.ExtG Go.Proofs.YtchhdafgmifhdaaGreat.DskA Go.Proofs.YtchhdafgmifhdaaGreat.DskB Go.Proofs.YtchhdafgmifhdaaGreat.DskC Go.Proofs.YtchhdafgmifhdaaGreat.AlcA Go.Proofs.YtchhdafgmifhdaaGreat.PoolB
open Go.ChangeMaps (setBlock)
set_option linter.unusedVariables false
set_option linter.unusedSimpArgs false
end Go.Proofs.YtchhdafgmifhdaaGreat.AlcG
namespace Go.Proofs.YtchhdafgmifhdaaGreat.AlcH
open Go.RowKit Go.Proofs.YtchhdafgmifhdaaGreat.B8 Go.Proofs.YtchhdafgmifhdaaGreat.Agg Go.Proofs.YtchhdafgmifhdaaGreat.CodL Go.Proofs.YtchhdafgmifhdaaGreat.CodA Go.Proofs.YtchhdafgmifhdaaGreat.CodB Go.Proofs.YtchhdafgmifhdaaGreat.CrcL Go.Proofs.YtchhdafgmifhdaaGreat.CrcA Go.Proofs.YtchhdafgmifhdaaGreat.CrcB Go.Proofs.YtchhdafgmifhdaaGreat.PVerifyForms Go.Proofs.YtchhdafgmifhdaaGreatW.PrintWords Go.Proofs.YtchhdafgmifhdaaGreatW.PrintLast Go.Proofs.YtchhdafgmifhdaaGreatW.PrintMore Go.Proofs.YtchhdafgmifhdaaGreat.ExtL Go.Proofs.YtchhdafgmifhdaaGreat.ExtA Go.Proofs.YtchhdafgmifhdaaGreat.ExtB Go.Proofs.YtchhdafgmifhdaaGreat.ExtC Go.Proofs.YtchhdafgmifhdaaGreat.ExtD Go.Proofs.YtchhdafgmifhdaaGreat.ExtE Go.Proofs.YtchhdafgmifhdaaGreat.ExtF Go.Proofs.YtchhdafgmifhdaaGreat.ExtG Go.Proofs.YtchhdafgmifhdaaGreat.DskA Go.Proofs.YtchhdafgmifhdaaGreat.DskB Go.Proofs.YtchhdafgmifhdaaGreat.DskC Go.Proofs.YtchhdafgmifhdaaGreat.AlcA Go.Proofs.YtchhdafgmifhdaaGreat.AlcC Go.Proofs.YtchhdafgmifhdaaGreat.PoolB Go.Proofs.YtchhdafgmifhdaaGreat.AlcG
set_option linter.unusedVariables false
set_option linter.unusedSimpArgs false
end Go.Proofs.YtchhdafgmifhdaaGreat.AlcH
namespace Go.Proofs.YtchhdafgmifhdaaGreat.PoolC
open Go.RowKit Go.Proofs.YtchhdafgmifhdaaGreat.B8 Go.Proofs.YtchhdafgmifhdaaGreat.Agg Go.Proofs.YtchhdafgmifhdaaGreat.CodL Go.Proofs.YtchhdafgmifhdaaGreat.CodA Go.Proofs.YtchhdafgmifhdaaGreat.CodB Go.Proofs.YtchhdafgmifhdaaGreat.CrcL Go.Proofs.YtchhdafgmifhdaaGreat.CrcA Go.Proofs.YtchhdafgmifhdaaGreat.CrcB Go.Proofs.YtchhdafgmifhdaaGreat.PVerifyForms Go.Proofs.YtchhdafgmifhdaaGreatW.PrintWords Go.Proofs.YtchhdafgmifhdaaGreatW.PrintLast Go.Proofs.YtchhdafgmifhdaaGreatW.PrintMore Go.Proofs.YtchhdafgmifhdaaGreat.CatL Go.Proofs.YtchhdafgmifhdaaGreat.PtrA Go.Proofs.YtchhdafgmifhdaaGreat.PtrB Go.Proofs.YtchhdafgmifhdaaGreat.PtrE Go.Proofs.YtchhdafgmifhdaaGreat.OfA Go.Proofs.YtchhdafgmifhdaaGreat.ExtL Go.Proofs.YtchhdafgmifhdaaGreat.ExtA Go.Proofs.YtchhdafgmifhdaaGreat.DskA Go.Proofs.YtchhdafgmifhdaaGreat.DskB Go.Proofs.YtchhdafgmifhdaaGreat.DskC Go.Proofs.YtchhdafgmifhdaaGreat.AlcA Go.Proofs.YtchhdafgmifhdaaGreat.AlcB Go.Proofs.YtchhdafgmifhdaaGreat.AlcC Go.Proofs.YtchhdafgmifhdaaGreat.AlcD Go.Proofs.YtchhdafgmifhdaaGreat.AlcE Go.Proofs.YtchhdafgmifhdaaGreat.AlcF Go.Proofs.YtchhdafgmifhdaaGreat.SpnA Go.Proofs.YtchhdafgmifhdaaGreat.BlkA Go.Proofs.YtchhdafgmifhdaaGreat.BlkB Go.Proofs.YtchhdafgmifhdaaGreat.PoolA Go.Proofs.YtchhdafgmifhdaaGreat.PoolB Go.Proofs.YtchhdafgmifhdaaGreat.ShaK Go.Proofs.YtchhdafgmifhdaaGreat.ExtF Go.Proofs.YtchhdafgmifhdaaGreat.ExtG Go.Proofs.YtchhdafgmifhdaaGreat.ExtE Go.Proofs.YtchhdafgmifhdaaGreat.ExtD Go.Proofs.YtchhdafgmifhdaaGreat.AlcG Go.Proofs.YtchhdafgmifhdaaGreat.AlcH Go.Proofs.YtchhdafgmifhdaaGreat.KpA
set_option linter.unusedVariables false
set_option linter.unusedSimpArgs false
theorem PO_ep {W : World} {p d m a mw N : Nat} {fr tu rs : Int} {l : List Sp} {ep : Int} {kv : Value} (h : PO W p d m a mw N fr tu rs l ep kv) (e2 : Int) : PO (W.setCell ⟨p, 2, none⟩ (.int .i64 e2)) p d m a mw N fr tu rs l e2 kv := by
  have hk : Kept W (W.setCell ⟨p, 2, none⟩ (.int .i64 e2)) (fun k => k = p) := ⟨by simp [World.setCell], fun i _ hn => Below.heap_setCell W ⟨p, 2, none⟩ _ i hn⟩
  obtain ⟨es, cl, hm, _⟩ := h.map
  have hb := h.blk
  refine ⟨by rw [blk_set h.blk 2 _]; rfl, DB_kept h.disk hk (fun A c hd e => by subst e; rw [hd] at hb; simp at hb), MI_kept h.map hk (by rintro rfl; rw [hm] at hb; cases hb), ?_, h.ne⟩
  refine AB_kept h.alc hk (by rintro rfl; obtain ⟨A, n, c, was, ha, _⟩ := h.alc.blk; rw [ha] at hb; simp at hb) (by rintro rfl; obtain ⟨cl, hw⟩ := h.alc.wait; rw [hw] at hb; cases hb) (fun k cs e => ?_)
  subst e
  rw [hb]
  simp
end Go.Proofs.YtchhdafgmifhdaaGreat.PoolC
namespace Go.Proofs.YtchhdafgmifhdaaGreat.FrmB
open Go.RowKit Go.Proofs.YtchhdafgmifhdaaGreat.B8 Go.Proofs.YtchhdafgmifhdaaGreat.Agg Go.Proofs.YtchhdafgmifhdaaGreat.CodL Go.Proofs.YtchhdafgmifhdaaGreat.CodA Go.Proofs.YtchhdafgmifhdaaGreat.CodB Go.Proofs.YtchhdafgmifhdaaGreat.CrcL Go.Proofs.YtchhdafgmifhdaaGreat.CrcA Go.Proofs.YtchhdafgmifhdaaGreat.CrcB Go.Proofs.YtchhdafgmifhdaaGreat.PVerifyForms Go.Proofs.YtchhdafgmifhdaaGreatW.PrintWords Go.Proofs.YtchhdafgmifhdaaGreatW.PrintLast Go.Proofs.YtchhdafgmifhdaaGreatW.PrintMore Go.Proofs.YtchhdafgmifhdaaGreat.CatL Go.Proofs.YtchhdafgmifhdaaGreat.PtrA Go.Proofs.YtchhdafgmifhdaaGreat.PtrB Go.Proofs.YtchhdafgmifhdaaGreat.PtrE Go.Proofs.YtchhdafgmifhdaaGreat.OfA Go.Proofs.YtchhdafgmifhdaaGreat.ExtL Go.Proofs.YtchhdafgmifhdaaGreat.ExtA Go.Proofs.YtchhdafgmifhdaaGreat.DskA Go.Proofs.YtchhdafgmifhdaaGreat.DskB Go.Proofs.YtchhdafgmifhdaaGreat.DskC Go.Proofs.YtchhdafgmifhdaaGreat.AlcA Go.Proofs.YtchhdafgmifhdaaGreat.AlcB Go.Proofs.YtchhdafgmifhdaaGreat.AlcC Go.Proofs.YtchhdafgmifhdaaGreat.AlcD Go.Proofs.YtchhdafgmifhdaaGreat.AlcE Go.Proofs.YtchhdafgmifhdaaGreat.AlcF Go.Proofs.YtchhdafgmifhdaaGreat.KpA Go.Proofs.YtchhdafgmifhdaaGreat.LeaA Go.Proofs.YtchhdafgmifhdaaGreat.LeaG Go.Proofs.YtchhdafgmifhdaaGreat.LeaJ Go.Proofs.YtchhdafgmifhdaaGreat.LeaO Go.Proofs.YtchhdafgmifhdaaGreat.PoolA Go.Proofs.YtchhdafgmifhdaaGreat.PoolB Go.Proofs.YtchhdafgmifhdaaGreat.PoolC Go.Proofs.YtchhdafgmifhdaaGreat.DskK Go.Proofs.YtchhdafgmifhdaaGreat.BlkK Go.Proofs.YtchhdafgmifhdaaGreat.PolK Go.Proofs.YtchhdafgmifhdaaGreat.FrmA
set_option linter.unusedVariables false
set_option linter.unusedSimpArgs false
def FreshK (w : World) (N : Nat) (e : Ending) (w' : World) : Prop :=
  ∃ p d m lb a mw, e = .returned (.pointer (some ⟨p, 0, none⟩)) ∧ (w.heap.size ≤ p ∧ w.heap.size ≤ d ∧ w.heap.size ≤ m ∧ w.heap.size ≤ lb ∧ w.heap.size ≤ a ∧ w.heap.size ≤ mw) ∧ PV w' p d m lb a mw N 2 (N : Int) 0 [(2, (N : Int))] 1 (.slice none 0 0) (fun _ => Z512) ∧ Below w.heap.size w w'
set_option maxRecDepth 100000 in
set_option maxHeartbeats 4000000 in
theorem fresh10 (N : Nat) (h1 : 3 ≤ N) (h2 : N ≤ 8192) (w : World) : Calls Tryz.prog 10 #[.int .i64 (N : Int)] w (FreshK w N) := by
  obtain ⟨P, hP⟩ : ∃ P : Ending → World → Prop, P = FreshK w N := ⟨_, rfl⟩
  rw [← hP]
  have HP := Aside0.mk hP
  have HN := Aside0.mk (And.intro h1 h2)
  clear hP h1 h2
  go_enter Tryz.func10, Tryz.ntmps10
  go_wp2_with fail
  refine (newK N (by have := HN.out; omega) HN.out.2 w).mono ?_
  rintro e W1 ⟨d, m, lb, rfl, hd, hm, hlb, hsv, hb⟩
  have H1 := Aside0.mk (And.intro hd (And.intro hm (And.intro hlb (And.intro hsv hb))))
  clear hd hm hlb hsv hb
  go_wp2_with fail
  refine (new11 2 (N : Int) 0 W1 (by omega) (by have := HN.out; omega) (by have := HN.out; omega) (by omega) (by have := HN.out; omega)).mono ?_
  rintro e W2 ⟨a, mw, rfl, ha, hmw, hab, hb⟩
  have H2 := Aside0.mk (And.intro ha (And.intro hmw (And.intro hab hb)))
  clear ha hmw hab hb
  obtain ⟨o, ho⟩ : ∃ o : Obj, o = .cells #[.pointer (some ⟨d, 0, none⟩), .pointer (some ⟨a, 0, none⟩), .int .i64 1, .bool false, .slice none 0 0] 28 := ⟨_, rfl⟩
  have HF := Aside0.mk (show FreshK w N (.returned (.pointer (some ⟨W2.heap.size, 0, none⟩))) (W2.alloc o) by
    obtain ⟨hd, hm, hlb, hsv, hb⟩ := H1.out
    obtain ⟨ha, hmw, hab, hb2⟩ := H2.out
    have hb3 : Below W2.heap.size W2 (W2.alloc o) := below_alloc (Below.refl _ _) o
    have hl := SV_lts hsv (by have := HN.out; omega)
    have h1 := hb.size
    have h2 := hb2.size
    have hs3 := (hsv.below hb2).below hb3
    refine ⟨W2.heap.size, d, m, lb, a, mw, rfl, ⟨by omega, hd, hm, hlb, by omega, by omega⟩, ⟨⟨by rw [ho]; exact blk_new W2 _, hs3.db, hs3.mi, hab.below hb3, by omega⟩, hs3, by omega, by omega⟩, hb.trans ((hb2.mono h1).trans (hb3.mono (by omega)))⟩)
  rw [ho] at HF
  clear ho
  go_wp2
  rw [HP.out]
  exact HF.out
theorem PV_ep {W : World} {p d m lb a mw N : Nat} {fr tu rs : Int} {l : List Sp} {ep : Int} {kv : Value} {rd : Int → List Int} (h : PV W p d m lb a mw N fr tu rs l ep kv rd) (e2 : Int) : PV (W.setCell ⟨p, 2, none⟩ (.int .i64 e2)) p d m lb a mw N fr tu rs l e2 kv rd := by
  have hk : Kept W (W.setCell ⟨p, 2, none⟩ (.int .i64 e2)) (fun k => k = p) := ⟨by simp [World.setCell], fun i _ hn => Below.heap_setCell W ⟨p, 2, none⟩ _ i hn⟩
  obtain ⟨c2, hd, _⟩ := h.sv.blk
  exact ⟨PO_ep h.po e2, h.sv.kept hk (by rintro rfl; have := h.po.blk; rw [hd] at this; simp at this) (fun e => PO_pm h.po e.symm) h.lbp, h.lba, h.lbp⟩
/-- A row of slices in a block. -/
theorem CT_block {w : World} {g : Nat} {ts : List Tri} {fz : Nat × Nat} (hg : w.heap[g]? = some (.cells (ts.map encT).toArray 36 fz)) (hl : ts.length ≤ 1000000) : Kd.C kT w (some ⟨g, 0, none⟩) ts.length ts :=
  ⟨rfl, by omega, fun _ => ⟨_, rfl, fun j p hj => ⟨[encT p], rfl, rfl, fun i u hu => by
    match i with
    | 0 =>
      obtain rfl : encT p = u := by simpa using hu
      rw [show (⟨g, 0, none⟩ : Addr).add (j * kT.sz + 0) = ⟨g, j, none⟩ from by rw [add_at]; simp [show kT.sz = 1 from rfl], cell_of_row _ _ _ _ 36 fz hg]
      simp [hj]
    | i + 1 => simp at hu⟩⟩⟩
theorem El1_block {w : World} {g : Nat} {x : Int} {fz : Nat × Nat} (hg : w.heap[g]? = some (.cells #[.int .u8 x] 5 fz)) : El1 w ⟨some ⟨g, 0, none⟩, 1, 1⟩ [x] :=
  ⟨⟨rfl, (by show 1 ≤ 9223372036854775807; decide), fun _ => ⟨_, rfl, fun j p hj => ⟨[.int .u8 p], rfl, rfl, fun i u hu => by
    match j, i with
    | 0, 0 =>
      obtain rfl : x = p := by simpa using hj
      obtain rfl : Value.int .u8 x = u := by simpa using hu
      rw [show (⟨g, 0, none⟩ : Addr).add (0 * (Kd.int .u8).sz + 0) = ⟨g, 0, none⟩ from rfl, cell_of_row _ _ _ _ 5 fz hg]
      rfl
    | 0, i + 1 => simp at hu
    | j + 1, _ => simp at hj⟩⟩⟩, rfl, Nat.le_refl _, fun ad had => by
    injection had with had
    subst had
    exact ⟨_, _, hg⟩⟩
theorem El_one {w : World} {t : Tri} {k : List Int} (h : El1 w t k) : El w [t] [k] := ⟨rfl, fun i hi => by
  obtain rfl : i = 0 := by simpa using hi
  exact h⟩
theorem El_two {w : World} {t t2 : Tri} {k k2 : List Int} (h : El1 w t k) (h2 : El1 w t2 k2) : El w [t, t2] [k, k2] := ⟨rfl, fun i hi => by
  have hi2 : i = 0 ∨ i = 1 := by simp at hi; omega
  rcases hi2 with rfl | rfl
  · exact h
  · exact h2⟩
abbrev sl (g : Nat) : Value := .slice (some ⟨g, 0, none⟩) 1 1
theorem sz_alloc {W W1 : World} {o : Obj} (h : W1 = W.alloc o) : W1.heap.size = W.heap.size + 1 := by rw [h]; simp
theorem new_alloc {W W1 : World} {o : Obj} (h : W1 = W.alloc o) {g : Nat} (hg : g = W.heap.size) : W1.heap[g]? = some o := by rw [h, hg]; exact blk_new W o
theorem old_alloc {W W1 : World} {o o' : Obj} {g : Nat} (hh : W.heap[g]? = some o) (h : W1 = W.alloc o') : W1.heap[g]? = some o := by rw [h]; exact blk_alloc hh o'
theorem bel_alloc {w W W1 : World} {o : Obj} (hh : Below w.heap.size w W) (h : W1 = W.alloc o) : Below w.heap.size w W1 := by rw [h]; exact below_alloc hh o
/-- A leaf of two pairs of one byte each. -/
theorem made_two (W W1 W2 W3 W4 W5 W6 : World) (g : Nat) (a b c d : Int) (hg : g = W.heap.size)
    (h1 : W1 = W.alloc (.cells #[.int .u8 a] 5 (1, 2))) (h2 : W2 = W1.alloc (.cells #[.int .u8 b] 5 (1, 2))) (h3 : W3 = W2.alloc (.cells #[sl g, sl (g + 1)] 36))
    (h4 : W4 = W3.alloc (.cells #[.int .u8 c] 5 (1, 2))) (h5 : W5 = W4.alloc (.cells #[.int .u8 d] 5 (1, 2))) (h6 : W6 = W5.alloc (.cells #[sl (g + 1 + 1 + 1), sl (g + 1 + 1 + 1 + 1)] 36)) :
    Below W.heap.size W W6 ∧ NV W6 ⟨0, [[a], [b]], [[c], [d]], []⟩ ⟨some ⟨g + 1 + 1, 0, none⟩, 2, some ⟨g + 1 + 1 + 1 + 1 + 1, 0, none⟩, 2, none, 0⟩ := by
  have s1 := sz_alloc h1
  have s2 := sz_alloc h2
  have s3 := sz_alloc h3
  have s4 := sz_alloc h4
  have s5 := sz_alloc h5
  have e1 := old_alloc (old_alloc (old_alloc (old_alloc (old_alloc (new_alloc h1 hg) h2) h3) h4) h5) h6
  have e2 := old_alloc (old_alloc (old_alloc (old_alloc (new_alloc h2 (g := g + 1) (by omega)) h3) h4) h5) h6
  have e3 := old_alloc (old_alloc (old_alloc (new_alloc h3 (g := g + 1 + 1) (by omega)) h4) h5) h6
  have e4 := old_alloc (old_alloc (new_alloc h4 (g := g + 1 + 1 + 1) (by omega)) h5) h6
  have e5 := old_alloc (new_alloc h5 (g := g + 1 + 1 + 1 + 1) (by omega)) h6
  have e6 := new_alloc h6 (g := g + 1 + 1 + 1 + 1 + 1) (by omega)
  refine ⟨bel_alloc (bel_alloc (bel_alloc (bel_alloc (bel_alloc (bel_alloc (Below.refl _ _) h1) h2) h3) h4) h5) h6, ?_, ?_, Kd.C_nil _ _, Nat.le_refl 2, Nat.le_refl 2, Nat.le_refl 0⟩
  · exact C_of_El (CT_block (ts := [⟨some ⟨g, 0, none⟩, 1, 1⟩, ⟨some ⟨g + 1, 0, none⟩, 1, 1⟩]) e3 (by show 2 ≤ 1000000; decide)) (El_two (El1_block e1) (El1_block e2))
  · exact C_of_El (CT_block (ts := [⟨some ⟨g + 1 + 1 + 1, 0, none⟩, 1, 1⟩, ⟨some ⟨g + 1 + 1 + 1 + 1, 0, none⟩, 1, 1⟩]) e6 (by show 2 ≤ 1000000; decide)) (El_two (El1_block e4) (El1_block e5))
/-- A leaf of one pair. -/
theorem made_one (W W1 W2 W3 W4 : World) (g : Nat) (a c : Int) (hg : g = W.heap.size)
    (h1 : W1 = W.alloc (.cells #[.int .u8 a] 5 (1, 2))) (h2 : W2 = W1.alloc (.cells #[sl g] 36))
    (h3 : W3 = W2.alloc (.cells #[.int .u8 c] 5 (1, 2))) (h4 : W4 = W3.alloc (.cells #[sl (g + 1 + 1)] 36)) :
    Below W.heap.size W W4 ∧ NV W4 ⟨0, [[a]], [[c]], []⟩ ⟨some ⟨g + 1, 0, none⟩, 1, some ⟨g + 1 + 1 + 1, 0, none⟩, 1, none, 0⟩ := by
  have s1 := sz_alloc h1
  have s2 := sz_alloc h2
  have s3 := sz_alloc h3
  have e1 := old_alloc (old_alloc (old_alloc (new_alloc h1 hg) h2) h3) h4
  have e2 := old_alloc (old_alloc (new_alloc h2 (g := g + 1) (by omega)) h3) h4
  have e3 := old_alloc (new_alloc h3 (g := g + 1 + 1) (by omega)) h4
  have e4 := new_alloc h4 (g := g + 1 + 1 + 1) (by omega)
  refine ⟨bel_alloc (bel_alloc (bel_alloc (bel_alloc (Below.refl _ _) h1) h2) h3) h4, ?_, ?_, Kd.C_nil _ _, Nat.le_refl 1, Nat.le_refl 1, Nat.le_refl 0⟩
  · exact C_of_El (CT_block (ts := [⟨some ⟨g, 0, none⟩, 1, 1⟩]) e2 (by show 1 ≤ 1000000; decide)) (El_one (El1_block e1))
  · exact C_of_El (CT_block (ts := [⟨some ⟨g + 1 + 1, 0, none⟩, 1, 1⟩]) e4 (by show 1 ≤ 1000000; decide)) (El_one (El1_block e3))
theorem CP_block {w : World} {g : Nat} {a b : Ptr} {fz : Nat × Nat} (hg : w.heap[g]? = some (.cells (encP a ++ encP b) 32 fz)) (ha : Ok a) (hb : Ok b) : Kd.C kP w (some ⟨g, 0, none⟩) 2 [a, b] :=
  ⟨rfl, by omega, fun _ => ⟨_, rfl, fun j p hj => by
    have hlen := encP_size ha.len
    have hj2 : j = 0 ∨ j = 1 := by have := (List.getElem?_eq_some_iff.1 hj).1; simp at this; omega
    rcases hj2 with rfl | rfl
    · obtain rfl : a = p := by simpa using hj
      refine ⟨(encP a).toList, enc_len ha, ⟨rfl, ha⟩, fun i u hu => ?_⟩
      have hi : i < 36 := by have := (List.getElem?_eq_some_iff.1 hu).1; rw [enc_len ha] at this; exact this
      rw [show (⟨g, 0, none⟩ : Addr).add (0 * kP.sz + i) = ⟨g, i, none⟩ from by rw [add_at]; simp, cell_of_row _ _ _ _ 32 fz hg, Array.getElem?_append_left (by omega), ← Array.getElem?_toList]
      exact hu
    · obtain rfl : b = p := by simpa using hj
      refine ⟨(encP b).toList, enc_len hb, ⟨rfl, hb⟩, fun i u hu => ?_⟩
      rw [show (⟨g, 0, none⟩ : Addr).add (1 * kP.sz + i) = ⟨g, 36 + i, none⟩ from by rw [add_at]; simp [show kP.sz = 36 from rfl], cell_of_row _ _ _ _ 32 fz hg, Array.getElem?_append_right (by omega), hlen, Nat.add_sub_cancel_left, ← Array.getElem?_toList]
      exact hu⟩⟩
abbrev sl2 (g : Nat) : Value := .slice (some ⟨g, 0, none⟩) 2 2
theorem root_nv {W : World} {gk gd ga gb : Nat} {ka kb : Int} {lv : Nat} {low high : Ptr} {fa fb : Nat × Nat} (ea : W.heap[ga]? = some (.cells #[.int .u8 ka] 5 fa)) (eb : W.heap[gb]? = some (.cells #[.int .u8 kb] 5 fb))
    (ek : W.heap[gk]? = some (.cells #[sl ga, sl gb] 36 (0, 0))) (ed : W.heap[gd]? = some (.cells (encP low ++ encP high) 32 (0, 0))) (hl : Ok low) (hh : Ok high) :
    NV W ⟨lv, [[ka], [kb]], [], [low, high]⟩ ⟨some ⟨gk, 0, none⟩, 2, none, 0, some ⟨gd, 0, none⟩, 2⟩ :=
  ⟨C_of_El (CT_block (ts := [⟨some ⟨ga, 0, none⟩, 1, 1⟩, ⟨some ⟨gb, 0, none⟩, 1, 1⟩]) ek (by show 2 ≤ 1000000; decide)) (El_two (El1_block ea) (El1_block eb)), Kd.C_nil _ _, CP_block ed hl hh, Nat.le_refl 2, Nat.le_refl 0, Nat.le_refl 2⟩
theorem made_root (W W1 W2 W3 W4 W5 : World) (g : Nat) (cl ch : Array Value) (hg : g = W.heap.size)
    (h1 : W1 = W.alloc (.cells #[.int .u8 98] 5 (1, 2))) (h2 : W2 = W1.alloc (.cells #[.int .u8 102] 5 (1, 2))) (h3 : W3 = W2.alloc (.cells #[sl g, sl (g + 1)] 36))
    (h4 : W4 = W3.alloc (.cells (cl ++ ch) 32)) (h5 : W5 = W4.alloc (.cells #[.int .i64 1, sl2 (g + 1 + 1), .slice none 0 0, sl2 (g + 1 + 1 + 1)] 39)) :
    Below W.heap.size W W5 ∧ W5.heap[g]? = some (.cells #[.int .u8 98] 5 (1, 2)) ∧ W5.heap[g + 1]? = some (.cells #[.int .u8 102] 5 (1, 2)) ∧ W5.heap[g + 1 + 1]? = some (.cells #[sl g, sl (g + 1)] 36 (0, 0)) ∧
      W5.heap[g + 1 + 1 + 1]? = some (.cells (cl ++ ch) 32 (0, 0)) ∧ W5.heap[g + 1 + 1 + 1 + 1]? = some (.cells #[.int .i64 1, sl2 (g + 1 + 1), .slice none 0 0, sl2 (g + 1 + 1 + 1)] 39 (0, 0)) := by
  have s1 := sz_alloc h1
  have s2 := sz_alloc h2
  have s3 := sz_alloc h3
  have s4 := sz_alloc h4
  exact ⟨bel_alloc (bel_alloc (bel_alloc (bel_alloc (bel_alloc (Below.refl _ _) h1) h2) h3) h4) h5,
    old_alloc (old_alloc (old_alloc (old_alloc (new_alloc h1 hg) h2) h3) h4) h5, old_alloc (old_alloc (old_alloc (new_alloc h2 (g := g + 1) (by omega)) h3) h4) h5,
    old_alloc (old_alloc (new_alloc h3 (g := g + 1 + 1) (by omega)) h4) h5, old_alloc (new_alloc h4 (g := g + 1 + 1 + 1) (by omega)) h5, new_alloc h5 (g := g + 1 + 1 + 1 + 1) (by omega)⟩
theorem PV_lts {W : World} {p d m lb a mw N : Nat} {fr tu rs : Int} {l : List Sp} {ep : Int} {kv : Value} {rd : Int → List Int} (h : PV W p d m lb a mw N fr tu rs l ep kv rd) (h0 : 0 < N) :
    d < W.heap.size ∧ m < W.heap.size ∧ lb < W.heap.size ∧ a < W.heap.size ∧ p < W.heap.size ∧ mw < W.heap.size ∧ ∀ ad n c was, W.heap[a]? = some (.cells #[.int .i64 fr, .int .i64 tu, .bool true, .int .i64 rs, .slice (some ad) n c, .map (some mw), was] 143 (0, 0)) → ad.block < W.heap.size := by
  obtain ⟨h1, h2, h3⟩ := SV_lts h.sv h0
  obtain ⟨A, n, c, was, ha, _⟩ := h.po.alc.blk
  obtain ⟨cw, hw⟩ := h.po.alc.wait
  exact ⟨h1, h2, h3, blk_lt ha, h.po.lt, blk_lt hw, fun ad n c was hh => by obtain ⟨cs, hc⟩ := h.po.alc.typ ad n c was hh; exact blk_lt hc⟩
/-- Blocks that are none of the pool's may change. -/
theorem PV_new {W W2 : World} {p d m lb a mw N : Nat} {fr tu rs : Int} {l : List Sp} {ep : Int} {kv : Value} {rd : Int → List Int} {S : Nat → Prop} (h : PV W p d m lb a mw N fr tu rs l ep kv rd) (hk : Kept W W2 S)
    (hS : ∀ k, S k → d ≠ k ∧ m ≠ k ∧ lb ≠ k ∧ a ≠ k ∧ p ≠ k ∧ mw ≠ k ∧ ∀ cs, W.heap[k]? ≠ some (.cells cs 136 (0, 0))) : PV W2 p d m lb a mw N fr tu rs l ep kv rd := by
  have no : ∀ q, (∀ k, S k → q ≠ k) → ¬ S q := fun q hq hs => hq q hs rfl
  exact ⟨⟨blk_kept h.po.blk hk (no p fun k hk => (hS k hk).2.2.2.2.1), DB_kept h.po.disk hk (fun _ _ _ => no d fun k hk => (hS k hk).1), MI_kept h.po.map hk (no m fun k hk => (hS k hk).2.1),
    AB_kept h.po.alc hk (no a fun k hk => (hS k hk).2.2.2.1) (no mw fun k hk => (hS k hk).2.2.2.2.2.1) (fun k cs hs => (hS k hs).2.2.2.2.2.2 cs), h.po.ne⟩,
    h.sv.kept hk (no d fun k hk => (hS k hk).1) (no m fun k hk => (hS k hk).2.1) (no lb fun k hk => (hS k hk).2.2.1), h.lba, h.lbp⟩
end Go.Proofs.YtchhdafgmifhdaaGreat.FrmB
namespace Go.Proofs.YtchhdafgmifhdaaGreatW.Opens
open Go.RowKit Go.Proofs.YtchhdafgmifhdaaGreatW.PrintWords
set_option linter.unusedVariables false

end Go.Proofs.YtchhdafgmifhdaaGreatW.Opens
