/- Own texts, one behind the other, each with what the claim uses of it: StmI StmJ StmK StmM StmN StmO StmP StmR StmQ CrcM StmS StmT StmV. -/
import Derived.Test.YtfefpbnhpncmlaaChecked
import GoSem.Claim
import GoSem.ClaimJoined
import GoSem.ClaimMapViews
import Derived.JoinedTies
import Derived.KernelRfl
import Derived.Test.YtfefpbnhpncmlaaProg
import Derived.Below
import Derived.Deep.Draws
import Derived.Deep.AppendLies
import Derived.Maps.AppendAt
import Derived.OwnWalk
import Derived.Laws.BytesArg
import Derived.Laws.MakeOwn
import Derived.Laws.OwnMore
import Derived.Deep.OwnRows
import Derived.Tactics
import Derived.Lib.ConvBytes
import Derived.Laws.Slices
import Derived.WalkKit
import Derived.RowKit3
import Derived.Deep.LoopGhost
import Derived.Deep.QuietTactic
import Derived.BigQuiet
import Derived.WideLaws
import Derived.Deep.DeepCutAuto
import Derived.Deep.CutBlock
import Derived.Deep.RegionHeld3
import Derived.Laws.Rows
import Derived.Lib.AppendStr
import Derived.ArgAppend
import Derived.Laws.IdiomCopy
import Derived.OrdersHeld
import Derived.Laws.BitsLemmas
import Derived.RowKit
import Derived.Laws.StructEq
import Derived.Deep.Slices
import Derived.Shelf.Strconv.Itoa0
import Derived.Outline
import Derived.Lib.EndianBits
import Derived.Deep.WholeRow
import Derived.WalkSpells
import Derived.WalkSmall
import Derived.Laws.Tables
import Derived.Deep.MidRow
import Derived.Laws.CopyOwn
import Derived.Laws.Cover3
import Derived.LoopN
import Derived.Lib.SlBytesConst
import Derived.Lib.SmallJoins
import Derived.OpenShut
import Derived.SizedLaws
import Derived.ChangeSlices
import Derived.ProofKit
import Derived.ShutString
import Derived.ChangeOld
import Derived.Test.YtfefpbnhpncmlaaWSized
import Derived.Test.YtfefpbnhpncmlaaWWords
import Derived.Test.YtfefpbnhpncmlaaSBA
namespace Go.Proofs.Ytfefpbnhpncmlaa.StmI
open Go.RowKit Go.Proofs.Ytfefpbnhpncmlaa.EntL Go.Proofs.Ytfefpbnhpncmlaa.EntB Go.Proofs.Ytfefpbnhpncmlaa.EntC Go.Proofs.Ytfefpbnhpncmlaa.EntD Go.Proofs.Ytfefpbnhpncmlaa.EntE Go.Proofs.Ytfefpbnhpncmlaa.EntF Go.Proofs.Ytfefpbnhpncmlaa.CatR Go.Proofs.Ytfefpbnhpncmlaa.CatT Go.Proofs.Ytfefpbnhpncmlaa.CatU Go.Proofs.Ytfefpbnhpncmlaa.CatK Go.Proofs.Ytfefpbnhpncmlaa.CatS Go.Proofs.Ytfefpbnhpncmlaa.CatY Go.Proofs.Ytfefpbnhpncmlaa.RefG Go.Proofs.Ytfefpbnhpncmlaa.PtrB Go.Proofs.Ytfefpbnhpncmlaa.PtrG Go.Proofs.Ytfefpbnhpncmlaa.Agg Go.Proofs.Ytfefpbnhpncmlaa.B8 Go.Proofs.Ytfefpbnhpncmlaa.CodL Go.Proofs.Ytfefpbnhpncmlaa.CodA Go.Proofs.Ytfefpbnhpncmlaa.CodB Go.Proofs.Ytfefpbnhpncmlaa.CatL Go.Proofs.Ytfefpbnhpncmlaa.PtrA Go.Proofs.Ytfefpbnhpncmlaa.PtrE Go.Proofs.Ytfefpbnhpncmlaa.PtrF Go.Proofs.Ytfefpbnhpncmlaa.PBaseSigns Go.Proofs.YtfefpbnhpncmlaaW.PrintWords Go.Proofs.YtfefpbnhpncmlaaW.PrintLast Go.Proofs.YtfefpbnhpncmlaaW.PrintMore Go.Proofs.Ytfefpbnhpncmlaa.EntG Go.Proofs.Ytfefpbnhpncmlaa.StmA Go.Proofs.Ytfefpbnhpncmlaa.StmB Go.Proofs.Ytfefpbnhpncmlaa.StmC Go.Proofs.Ytfefpbnhpncmlaa.CrcC Go.Proofs.Ytfefpbnhpncmlaa.StmD Go.Proofs.Ytfefpbnhpncmlaa.StmE Go.Proofs.Ytfefpbnhpncmlaa.CrcL Go.Proofs.Ytfefpbnhpncmlaa.StmL Go.Proofs.Ytfefpbnhpncmlaa.StmF Go.Proofs.Ytfefpbnhpncmlaa.StmG Go.Proofs.Ytfefpbnhpncmlaa.StmH
set_option linter.unusedVariables false
set_option linter.unusedSimpArgs false

open Classical in
/-- Is it a stream? -/
noncomputable def rightB (x : Stm) : Bool := decide (RightS x)
theorem rightB_true {x : Stm} (h : RightS x) : rightB x = true := by simp [rightB, h]
theorem rightB_false {x : Stm} (h : ¬ RightS x) : rightB x = false := by simp [rightB, h]
/-- The changes up to one are right. -/
def UpTo (x : Stm) (j : Nat) : Prop := ∀ i c, i < j → x.l[i]? = some c → OkC x.base (if i = 0 then none else (x.l[i - 1]?).map (·.key)) c
theorem upTo_succ {x : Stm} {j : Nat} {y : Chg} (h : UpTo x j) (hy : x.l[j]? = some y) (hk : OkC x.base (if j = 0 then none else (x.l[j - 1]?).map (·.key)) y) : UpTo x (j + 1) := fun i c hi hc => by
  rcases Nat.lt_succ_iff_lt_or_eq.1 hi with h1 | rfl
  · exact h i c h1 hc
  · rw [hy] at hc
    cases hc
    exact hk
set_option maxRecDepth 100000 in
set_option maxHeartbeats 1000000 in
theorem right_calls (x : Stm) (A : Option Addr) (c n : Nat) (xs : List Sl) (w : World) (h : CR w A n xs x.l) (hm : n ≤ 9000) :
    Calls Try.prog 87 #[.agg #[.string x.base, .string x.snap, .slice A n c]] w fun e w' => e = .returned (.bool (rightB x)) ∧ Below w.heap.size w w' := by
  obtain ⟨base, snap, l⟩ := x
  have H := Aside0.mk h
  have B0 := Aside0.mk (below_alloc (Below.refl w.heap.size w) (.cells #[.string base, .string snap, .slice A n c] 79))
  have G0 := Aside0.mk (blk_new w (.cells #[.string base, .string snap, .slice A n c] 79))
  obtain ⟨P, hP⟩ : ∃ P : Ending → World → Prop, P = (fun e w' => e = .returned (.bool (rightB ⟨base, snap, l⟩)) ∧ Below w.heap.size w w') := ⟨_, rfl⟩
  rw [← hP]
  have HP := Aside0.mk hP
  clear hP h
  go_enter Try.func87, Try.ntmps87
  go_wp2_with fail
  refine (named_calls snap _).mono ?_
  rintro e w1 ⟨rfl, rfl⟩
  cases hsn : namedB snap with
  | false =>
    have HF := Aside0.mk (rightB_false (x := ⟨base, snap, l⟩) (fun h => by have := h.snap; rw [hsn] at this; cases this))
    go_wp2
    rw [HP.out, HF.out]
    exact ⟨rfl, B0.out⟩
  | true =>
    have HSN := Aside0.mk hsn
    clear hsn
    have dn : decide ((65536 : Int) < (n : Int)) = false := decide_eq_false (by omega)
    by_cases hb0 : base.size = 0
    · obtain rfl := emp_of hb0
      have he : emp.toList = [] := by kernel_rfl
      go_wp2
      have hbs : emp.size ≤ 63 := by decide
      generalize hW0 : w.alloc (.cells #[.string emp, .string snap, .slice A n c] 79) = W0 at *
      have hs0 : W0.heap.size = w.heap.size + 1 := by rw [← hW0]; simp
      clear hW0
      go_loopw [30] (fun v30 wr => ∃ (j : Nat), v30 = .int .i64 (j : Int) ∧ j ≤ n ∧ Aside0 (UpTo ⟨emp, snap, l⟩ j) ∧ Aside0 (Below W0.heap.size W0 wr)) (fun v _ => n - (intOf v).toNat)
      case atStart => exact ⟨0, rfl, Nat.zero_le _, ⟨fun i c h => absurd h (Nat.not_lt_zero _)⟩, ⟨Below.refl _ _⟩⟩
      case round =>
        obtain ⟨j, rfl, hj, HU, HB'⟩ := hrel
        have HB := Aside0.mk (below_then B0.out B0.out.size HB'.out)
        have G1 := Aside0.mk (blk_below G0.out HB'.out)
        have hszb := HB'.out.size
        by_cases hlt : j < n
        · obtain ⟨b, off, rfl, hb, hx⟩ := CF_at H.out.row (by omega)
          have hxj := hx j hlt
          have hca := H.out.each j hlt
          obtain ⟨p, hp⟩ : ∃ p, p = xs.getD j default := ⟨_, rfl⟩
          obtain ⟨y, hy⟩ : ∃ y, y = l.getD j default := ⟨_, rfl⟩
          rw [← hp] at hxj hca
          rw [← hy] at hca
          have HX := Aside0.mk (rangeAt_below hxj HB.out hb)
          have HYL := Aside0.mk (show l[j]? = some y by
            have hl := H.out.len
            rw [hy, List.getD_eq_getElem?_getD, List.getElem?_eq_getElem (by omega)]; rfl)
          have HCA := Aside0.mk hca.1
          have HPG := Aside0.mk hca.2
          have l1 : p.n1 = y.key.size := by have := hca.1.k.1; rw [bytesOf_len] at this; exact this.symm
          have l2 : p.n2 = y.inn.size := by have := hca.1.i.1; rw [bytesOf_len] at this; exact this.symm
          have l3 : p.n3 = y.data.size := by have := hca.1.d.1; rw [bytesOf_len] at this; exact this.symm
          have HL := Aside0.mk (And.intro l1 (And.intro l2 l3))
          clear hxj hca hp hy l1 l2 l3
          go_wp2_with (refine load_S rfl (.tmp 33) rfl b (off + j * 4) p rfl HX.out ?_)
          have hbW := below_then (below_alloc (Below.refl wr.heap.size wr) (.cells (encS p) 133)) (by simp) (below_alloc (Below.refl (wr.alloc (.cells (encS p) 133)).heap.size (wr.alloc (.cells (encS p) 133))) (.cells (enc3 p) 131))
          have hg5 : ((wr.alloc (.cells (encS p) 133)).alloc (.cells (enc3 p) 131)).heap[wr.heap.size + 1]? = some (.cells (enc3 p) 131 (0, 0)) := by have := blk_new (wr.alloc (.cells (encS p) 133)) (.cells (enc3 p) 131); simpa using this
          have G5 := Aside0.mk (And.intro (blk_below G1.out hbW) (And.intro hg5 (blk_below (blk_new wr (.cells (encS p) 133)) (below_alloc (Below.refl (wr.alloc (.cells (encS p) 133)).heap.size (wr.alloc (.cells (encS p) 133))) (.cells (enc3 p) 131)))))
          have HBb := Aside0.mk (below_then HB.out HB.out.size hbW)
          have HB0b := Aside0.mk (below_then HB'.out HB'.out.size hbW)
          clear hbW hg5
          generalize ((wr.alloc (.cells (encS p) 133)).alloc (.cells (enc3 p) 131)) = Wb at *
          have hS0 : Below Wb.heap.size Wb Wb.drew := below_drew (Below.refl _ _)
          by_cases hK : 160 < p.n1
          · have dK : decide ((160 : Int) < (p.n1 : Int)) = true := decide_eq_true (by omega)
            refine wp_region_held_drew (S := fun w' => Below Wb.heap.size Wb w') (by kernel_rfl) hS0 (fun hW => ?_)
            refine wpAnyH_take (i := 0) (oi := ⟨some 37, _, _, _, _, _⟩) (v := .pointer (some ⟨wr.heap.size + 1, 0, none⟩)) rfl (by kernel_rfl) (by kernel_rfl) (by kernel_rfl) (fun _ _ _ h => h) (.inl ⟨by rfl, fun W1 h1 => by go_simp⟩) hW ?_
            try simp only [Act.put, List.setIfInBounds_toArray, List.set_cons_zero, List.set_cons_succ]
            refine wpAnyH_take (i := 1) (oi := ⟨some 38, _, _, _, _, _⟩) (v := .slice p.A1 p.n1 p.c1) rfl (by kernel_rfl) (by kernel_rfl) (by kernel_rfl) (fun _ _ _ h => h) (.inl ⟨by rfl, fun W1 h1 => by (have x1 : W1.cell? ⟨wr.heap.size + 1, 0, none⟩ = some (.slice p.A1 p.n1 p.c1) := (by rw [cell_of_row _ _ 0 _ 131 (0, 0) (blk_below G5.out.2.1 h1)]; rfl)); go_simp⟩) hW ?_
            try simp only [Act.put, List.setIfInBounds_toArray, List.set_cons_zero, List.set_cons_succ]
            refine wpAnyH_take (i := 2) (oi := ⟨some 39, _, _, _, _, _⟩) (v := .int .i64 (p.n1 : Int)) rfl (by kernel_rfl) (by kernel_rfl) (by kernel_rfl) (fun _ _ _ h => h) (.inl ⟨by rfl, fun W1 h1 => by go_simp⟩) hW ?_
            try simp only [Act.put, List.setIfInBounds_toArray, List.set_cons_zero, List.set_cons_succ]
            refine wpAnyH_take (i := 3) (oi := ⟨some 40, _, _, _, _, _⟩) (v := .bool true) rfl (by kernel_rfl) (by kernel_rfl) (by kernel_rfl) (fun _ _ _ h => h) (.inl ⟨by rfl, fun W1 h1 => by go_simp⟩) hW ?_
            try simp only [Act.put, List.setIfInBounds_toArray, List.set_cons_zero, List.set_cons_succ]
            refine wpAnyH_take (i := 4) (oi := ⟨some 41, _, _, _, _, _⟩) (v := .bool true) rfl (by kernel_rfl) (by kernel_rfl) (by kernel_rfl) (fun _ _ _ h => h) (.inl ⟨by rfl, fun W1 h1 => by go_simp⟩) hW ?_
            try simp only [Act.put, List.setIfInBounds_toArray, List.set_cons_zero, List.set_cons_succ]
            refine wpAnyH_take (i := 5) (oi := ⟨some 42, _, _, _, _, _⟩) (v := undef) rfl (by kernel_rfl) (by kernel_rfl) (by kernel_rfl) (fun _ _ _ h => h) (.inr ⟨by rfl, rfl⟩) hW ?_
            try simp only [Act.put, List.setIfInBounds_toArray, List.set_cons_zero, List.set_cons_succ]
            refine wpAnyH_take (i := 6) (oi := ⟨some 43, _, _, _, _, _⟩) (v := undef) rfl (by kernel_rfl) (by kernel_rfl) (by kernel_rfl) (fun _ _ _ h => h) (.inr ⟨by rfl, rfl⟩) hW ?_
            try simp only [Act.put, List.setIfInBounds_toArray, List.set_cons_zero, List.set_cons_succ]
            refine wpAnyH_take (i := 7) (oi := ⟨some 44, _, _, _, _, _⟩) (v := undef) rfl (by kernel_rfl) (by kernel_rfl) (by kernel_rfl) (fun _ _ _ h => h) (.inr ⟨by rfl, rfl⟩) hW ?_
            try simp only [Act.put, List.setIfInBounds_toArray, List.set_cons_zero, List.set_cons_succ]
            refine wpAnyH_take (i := 8) (oi := ⟨some 45, _, _, _, _, _⟩) (v := undef) rfl (by kernel_rfl) (by kernel_rfl) (by kernel_rfl) (fun _ _ _ h => h) (.inr ⟨by rfl, rfl⟩) hW ?_
            try simp only [Act.put, List.setIfInBounds_toArray, List.set_cons_zero, List.set_cons_succ]
            refine wpAnyH_take (i := 9) (oi := ⟨some 46, _, _, _, _, _⟩) (v := .bool true) rfl (by kernel_rfl) (by kernel_rfl) (by kernel_rfl) (fun _ _ _ h => h) (.inl ⟨by rfl, fun W1 h1 => by go_simp⟩) hW ?_
            try simp only [Act.put, List.setIfInBounds_toArray, List.set_cons_zero, List.set_cons_succ]
            refine wpAnyH_take (i := 10) (oi := ⟨some 47, _, _, _, _, _⟩) (v := .bool true) rfl (by kernel_rfl) (by kernel_rfl) (by kernel_rfl) (fun _ _ _ h => h) (.inl ⟨by rfl, fun W1 h1 => by go_simp⟩) hW ?_
            try simp only [Act.put, List.setIfInBounds_toArray, List.set_cons_zero, List.set_cons_succ]
            refine wpAnyH_take (i := 11) (oi := ⟨some 48, _, _, _, _, _⟩) (v := undef) rfl (by kernel_rfl) (by kernel_rfl) (by kernel_rfl) (fun _ _ _ h => h) (.inr ⟨by rfl, rfl⟩) hW ?_
            try simp only [Act.put, List.setIfInBounds_toArray, List.set_cons_zero, List.set_cons_succ]
            refine wpAnyH_take (i := 12) (oi := ⟨some 49, _, _, _, _, _⟩) (v := undef) rfl (by kernel_rfl) (by kernel_rfl) (by kernel_rfl) (fun _ _ _ h => h) (.inr ⟨by rfl, rfl⟩) hW ?_
            try simp only [Act.put, List.setIfInBounds_toArray, List.set_cons_zero, List.set_cons_succ]
            refine wpAnyH_take (i := 13) (oi := ⟨some 50, _, _, _, _, _⟩) (v := undef) rfl (by kernel_rfl) (by kernel_rfl) (by kernel_rfl) (fun _ _ _ h => h) (.inr ⟨by rfl, rfl⟩) hW ?_
            try simp only [Act.put, List.setIfInBounds_toArray, List.set_cons_zero, List.set_cons_succ]
            refine wpAnyH_take (i := 14) (oi := ⟨some 51, _, _, _, _, _⟩) (v := undef) rfl (by kernel_rfl) (by kernel_rfl) (by kernel_rfl) (fun _ _ _ h => h) (.inr ⟨by rfl, rfl⟩) hW ?_
            try simp only [Act.put, List.setIfInBounds_toArray, List.set_cons_zero, List.set_cons_succ]
            refine wpAnyH_take (i := 15) (oi := ⟨some 52, _, _, _, _, _⟩) (v := .bool true) rfl (by kernel_rfl) (by kernel_rfl) (by kernel_rfl) (fun _ _ _ h => h) (.inl ⟨by rfl, fun W1 h1 => by go_simp⟩) hW ?_
            try simp only [Act.put, List.setIfInBounds_toArray, List.set_cons_zero, List.set_cons_succ]
            refine wpAnyH_take (i := 16) (oi := ⟨some 53, _, _, _, _, _⟩) (v := .bool true) rfl (by kernel_rfl) (by kernel_rfl) (by kernel_rfl) (fun _ _ _ h => h) (.inl ⟨by rfl, fun W1 h1 => by go_simp⟩) hW ?_
            try simp only [Act.put, List.setIfInBounds_toArray, List.set_cons_zero, List.set_cons_succ]
            refine wpAnyH_take (i := 17) (oi := ⟨some 54, _, _, _, _, _⟩) (v := undef) rfl (by kernel_rfl) (by kernel_rfl) (by kernel_rfl) (fun _ _ _ h => h) (.inr ⟨by rfl, rfl⟩) hW ?_
            try simp only [Act.put, List.setIfInBounds_toArray, List.set_cons_zero, List.set_cons_succ]
            refine wpAnyH_take (i := 18) (oi := ⟨some 55, _, _, _, _, _⟩) (v := undef) rfl (by kernel_rfl) (by kernel_rfl) (by kernel_rfl) (fun _ _ _ h => h) (.inr ⟨by rfl, rfl⟩) hW ?_
            try simp only [Act.put, List.setIfInBounds_toArray, List.set_cons_zero, List.set_cons_succ]
            refine wpAnyH_take (i := 19) (oi := ⟨some 56, _, _, _, _, _⟩) (v := undef) rfl (by kernel_rfl) (by kernel_rfl) (by kernel_rfl) (fun _ _ _ h => h) (.inr ⟨by rfl, rfl⟩) hW ?_
            try simp only [Act.put, List.setIfInBounds_toArray, List.set_cons_zero, List.set_cons_succ]
            refine wpAnyH_take (i := 20) (oi := ⟨some 57, _, _, _, _, _⟩) (v := undef) rfl (by kernel_rfl) (by kernel_rfl) (by kernel_rfl) (fun _ _ _ h => h) (.inr ⟨by rfl, rfl⟩) hW ?_
            try simp only [Act.put, List.setIfInBounds_toArray, List.set_cons_zero, List.set_cons_succ]
            refine wpAnyH_take (i := 21) (oi := ⟨some 58, _, _, _, _, _⟩) (v := undef) rfl (by kernel_rfl) (by kernel_rfl) (by kernel_rfl) (fun _ _ _ h => h) (.inr ⟨by rfl, rfl⟩) hW ?_
            try simp only [Act.put, List.setIfInBounds_toArray, List.set_cons_zero, List.set_cons_succ]
            refine wpAnyH_take (i := 22) (oi := ⟨some 59, _, _, _, _, _⟩) (v := undef) rfl (by kernel_rfl) (by kernel_rfl) (by kernel_rfl) (fun _ _ _ h => h) (.inr ⟨by rfl, rfl⟩) hW ?_
            try simp only [Act.put, List.setIfInBounds_toArray, List.set_cons_zero, List.set_cons_succ]
            refine wpAnyH_take (i := 23) (oi := ⟨some 60, _, _, _, _, _⟩) (v := undef) rfl (by kernel_rfl) (by kernel_rfl) (by kernel_rfl) (fun _ _ _ h => h) (.inr ⟨by rfl, rfl⟩) hW ?_
            try simp only [Act.put, List.setIfInBounds_toArray, List.set_cons_zero, List.set_cons_succ]
            refine wpAnyH_take (i := 24) (oi := ⟨some 61, _, _, _, _, _⟩) (v := undef) rfl (by kernel_rfl) (by kernel_rfl) (by kernel_rfl) (fun _ _ _ h => h) (.inr ⟨by rfl, rfl⟩) hW ?_
            try simp only [Act.put, List.setIfInBounds_toArray, List.set_cons_zero, List.set_cons_succ]
            refine wpAnyH_take (i := 25) (oi := ⟨some 62, _, _, _, _, _⟩) (v := undef) rfl (by kernel_rfl) (by kernel_rfl) (by kernel_rfl) (fun _ _ _ h => h) (.inr ⟨by rfl, rfl⟩) hW ?_
            try simp only [Act.put, List.setIfInBounds_toArray, List.set_cons_zero, List.set_cons_succ]
            refine wpAnyH_take (i := 26) (oi := ⟨some 63, _, _, _, _, _⟩) (v := undef) rfl (by kernel_rfl) (by kernel_rfl) (by kernel_rfl) (fun _ _ _ h => h) (.inr ⟨by rfl, rfl⟩) hW ?_
            try simp only [Act.put, List.setIfInBounds_toArray, List.set_cons_zero, List.set_cons_succ]
            refine wpAnyH_take (i := 27) (oi := ⟨some 64, _, _, _, _, _⟩) (v := undef) rfl (by kernel_rfl) (by kernel_rfl) (by kernel_rfl) (fun _ _ _ h => h) (.inr ⟨by rfl, rfl⟩) hW ?_
            try simp only [Act.put, List.setIfInBounds_toArray, List.set_cons_zero, List.set_cons_succ]
            refine wpAnyH_take (i := 28) (oi := ⟨some 65, _, _, _, _, _⟩) (v := undef) rfl (by kernel_rfl) (by kernel_rfl) (by kernel_rfl) (fun _ _ _ h => h) (.inr ⟨by rfl, rfl⟩) hW ?_
            try simp only [Act.put, List.setIfInBounds_toArray, List.set_cons_zero, List.set_cons_succ]
            refine wpAnyH_take (i := 29) (oi := ⟨some 66, _, _, _, _, _⟩) (v := undef) rfl (by kernel_rfl) (by kernel_rfl) (by kernel_rfl) (fun _ _ _ h => h) (.inr ⟨by rfl, rfl⟩) hW ?_
            try simp only [Act.put, List.setIfInBounds_toArray, List.set_cons_zero, List.set_cons_succ]
            refine wpAnyH_take (i := 30) (oi := ⟨some 67, _, _, _, _, _⟩) (v := undef) rfl (by kernel_rfl) (by kernel_rfl) (by kernel_rfl) (fun _ _ _ h => h) (.inr ⟨by rfl, rfl⟩) hW ?_
            try simp only [Act.put, List.setIfInBounds_toArray, List.set_cons_zero, List.set_cons_succ]
            refine wpAnyH_take (i := 31) (oi := ⟨some 68, _, _, _, _, _⟩) (v := undef) rfl (by kernel_rfl) (by kernel_rfl) (by kernel_rfl) (fun _ _ _ h => h) (.inr ⟨by rfl, rfl⟩) hW ?_
            try simp only [Act.put, List.setIfInBounds_toArray, List.set_cons_zero, List.set_cons_succ]
            refine wpAnyH_take (i := 32) (oi := ⟨some 69, _, _, _, _, _⟩) (v := undef) rfl (by kernel_rfl) (by kernel_rfl) (by kernel_rfl) (fun _ _ _ h => h) (.inr ⟨by rfl, rfl⟩) hW ?_
            try simp only [Act.put, List.setIfInBounds_toArray, List.set_cons_zero, List.set_cons_succ]
            refine wpAnyH_take (i := 33) (oi := ⟨some 70, _, _, _, _, _⟩) (v := undef) rfl (by kernel_rfl) (by kernel_rfl) (by kernel_rfl) (fun _ _ _ h => h) (.inr ⟨by rfl, rfl⟩) hW ?_
            try simp only [Act.put, List.setIfInBounds_toArray, List.set_cons_zero, List.set_cons_succ]
            refine wpAnyH_take (i := 34) (oi := ⟨some 71, _, _, _, _, _⟩) (v := .bool true) rfl (by kernel_rfl) (by kernel_rfl) (by kernel_rfl) (fun _ _ _ h => h) (.inl ⟨by rfl, fun W1 h1 => by go_simp⟩) hW ?_
            try simp only [Act.put, List.setIfInBounds_toArray, List.set_cons_zero, List.set_cons_succ]
            refine wpAnyH_done (by kernel_rfl) ?_ _
            have HF := Aside0.mk (rightB_false (x := ⟨emp, snap, l⟩) (fun h => by have := (h.all _ _ HYL.out).key; have := HL.out.1; omega))
            have HWF := Aside0.mk (below_then HBb.out HBb.out.size hS0)
            clear hS0 hW
            go_wp2
            rw [HP.out, HF.out]
            exact ⟨rfl, HWF.out⟩
          by_cases hI : 400 < p.n2
          · have dK : decide ((160 : Int) < (p.n1 : Int)) = false := decide_eq_false (by omega)
            have dI : decide ((400 : Int) < (p.n2 : Int)) = true := decide_eq_true (by omega)
            refine wp_region_held_drew (S := fun w' => Below Wb.heap.size Wb w') (by kernel_rfl) hS0 (fun hW => ?_)
            refine wpAnyH_take (i := 0) (oi := ⟨some 37, _, _, _, _, _⟩) (v := .pointer (some ⟨wr.heap.size + 1, 0, none⟩)) rfl (by kernel_rfl) (by kernel_rfl) (by kernel_rfl) (fun _ _ _ h => h) (.inl ⟨by rfl, fun W1 h1 => by go_simp⟩) hW ?_
            try simp only [Act.put, List.setIfInBounds_toArray, List.set_cons_zero, List.set_cons_succ]
            refine wpAnyH_take (i := 1) (oi := ⟨some 38, _, _, _, _, _⟩) (v := .slice p.A1 p.n1 p.c1) rfl (by kernel_rfl) (by kernel_rfl) (by kernel_rfl) (fun _ _ _ h => h) (.inl ⟨by rfl, fun W1 h1 => by (have x1 : W1.cell? ⟨wr.heap.size + 1, 0, none⟩ = some (.slice p.A1 p.n1 p.c1) := (by rw [cell_of_row _ _ 0 _ 131 (0, 0) (blk_below G5.out.2.1 h1)]; rfl)); go_simp⟩) hW ?_
            try simp only [Act.put, List.setIfInBounds_toArray, List.set_cons_zero, List.set_cons_succ]
            refine wpAnyH_take (i := 2) (oi := ⟨some 39, _, _, _, _, _⟩) (v := .int .i64 (p.n1 : Int)) rfl (by kernel_rfl) (by kernel_rfl) (by kernel_rfl) (fun _ _ _ h => h) (.inl ⟨by rfl, fun W1 h1 => by go_simp⟩) hW ?_
            try simp only [Act.put, List.setIfInBounds_toArray, List.set_cons_zero, List.set_cons_succ]
            refine wpAnyH_take (i := 3) (oi := ⟨some 40, _, _, _, _, _⟩) (v := .bool false) rfl (by kernel_rfl) (by kernel_rfl) (by kernel_rfl) (fun _ _ _ h => h) (.inl ⟨by rfl, fun W1 h1 => by go_simp⟩) hW ?_
            try simp only [Act.put, List.setIfInBounds_toArray, List.set_cons_zero, List.set_cons_succ]
            refine wpAnyH_take (i := 4) (oi := ⟨some 41, _, _, _, _, _⟩) (v := .bool false) rfl (by kernel_rfl) (by kernel_rfl) (by kernel_rfl) (fun _ _ _ h => h) (.inl ⟨by rfl, fun W1 h1 => by go_simp⟩) hW ?_
            try simp only [Act.put, List.setIfInBounds_toArray, List.set_cons_zero, List.set_cons_succ]
            refine wpAnyH_take (i := 5) (oi := ⟨some 42, _, _, _, _, _⟩) (v := .pointer (some ⟨wr.heap.size + 1, 1, none⟩)) rfl (by kernel_rfl) (by kernel_rfl) (by kernel_rfl) (fun _ _ _ h => h) (.inl ⟨by rfl, fun W1 h1 => by go_simp⟩) hW ?_
            try simp only [Act.put, List.setIfInBounds_toArray, List.set_cons_zero, List.set_cons_succ]
            refine wpAnyH_take (i := 6) (oi := ⟨some 43, _, _, _, _, _⟩) (v := .slice p.A2 p.n2 p.c2) rfl (by kernel_rfl) (by kernel_rfl) (by kernel_rfl) (fun _ _ _ h => h) (.inl ⟨by rfl, fun W1 h1 => by (have x1 : W1.cell? ⟨wr.heap.size + 1, 1, none⟩ = some (.slice p.A2 p.n2 p.c2) := (by rw [cell_of_row _ _ 1 _ 131 (0, 0) (blk_below G5.out.2.1 h1)]; rfl)); go_simp⟩) hW ?_
            try simp only [Act.put, List.setIfInBounds_toArray, List.set_cons_zero, List.set_cons_succ]
            refine wpAnyH_take (i := 7) (oi := ⟨some 44, _, _, _, _, _⟩) (v := .int .i64 (p.n2 : Int)) rfl (by kernel_rfl) (by kernel_rfl) (by kernel_rfl) (fun _ _ _ h => h) (.inl ⟨by rfl, fun W1 h1 => by go_simp⟩) hW ?_
            try simp only [Act.put, List.setIfInBounds_toArray, List.set_cons_zero, List.set_cons_succ]
            refine wpAnyH_take (i := 8) (oi := ⟨some 45, _, _, _, _, _⟩) (v := .bool true) rfl (by kernel_rfl) (by kernel_rfl) (by kernel_rfl) (fun _ _ _ h => h) (.inl ⟨by rfl, fun W1 h1 => by go_simp⟩) hW ?_
            try simp only [Act.put, List.setIfInBounds_toArray, List.set_cons_zero, List.set_cons_succ]
            refine wpAnyH_take (i := 9) (oi := ⟨some 46, _, _, _, _, _⟩) (v := .bool true) rfl (by kernel_rfl) (by kernel_rfl) (by kernel_rfl) (fun _ _ _ h => h) (.inl ⟨by rfl, fun W1 h1 => by go_simp⟩) hW ?_
            try simp only [Act.put, List.setIfInBounds_toArray, List.set_cons_zero, List.set_cons_succ]
            refine wpAnyH_take (i := 10) (oi := ⟨some 47, _, _, _, _, _⟩) (v := .bool true) rfl (by kernel_rfl) (by kernel_rfl) (by kernel_rfl) (fun _ _ _ h => h) (.inl ⟨by rfl, fun W1 h1 => by go_simp⟩) hW ?_
            try simp only [Act.put, List.setIfInBounds_toArray, List.set_cons_zero, List.set_cons_succ]
            refine wpAnyH_take (i := 11) (oi := ⟨some 48, _, _, _, _, _⟩) (v := undef) rfl (by kernel_rfl) (by kernel_rfl) (by kernel_rfl) (fun _ _ _ h => h) (.inr ⟨by rfl, rfl⟩) hW ?_
            try simp only [Act.put, List.setIfInBounds_toArray, List.set_cons_zero, List.set_cons_succ]
            refine wpAnyH_take (i := 12) (oi := ⟨some 49, _, _, _, _, _⟩) (v := undef) rfl (by kernel_rfl) (by kernel_rfl) (by kernel_rfl) (fun _ _ _ h => h) (.inr ⟨by rfl, rfl⟩) hW ?_
            try simp only [Act.put, List.setIfInBounds_toArray, List.set_cons_zero, List.set_cons_succ]
            refine wpAnyH_take (i := 13) (oi := ⟨some 50, _, _, _, _, _⟩) (v := undef) rfl (by kernel_rfl) (by kernel_rfl) (by kernel_rfl) (fun _ _ _ h => h) (.inr ⟨by rfl, rfl⟩) hW ?_
            try simp only [Act.put, List.setIfInBounds_toArray, List.set_cons_zero, List.set_cons_succ]
            refine wpAnyH_take (i := 14) (oi := ⟨some 51, _, _, _, _, _⟩) (v := undef) rfl (by kernel_rfl) (by kernel_rfl) (by kernel_rfl) (fun _ _ _ h => h) (.inr ⟨by rfl, rfl⟩) hW ?_
            try simp only [Act.put, List.setIfInBounds_toArray, List.set_cons_zero, List.set_cons_succ]
            refine wpAnyH_take (i := 15) (oi := ⟨some 52, _, _, _, _, _⟩) (v := .bool true) rfl (by kernel_rfl) (by kernel_rfl) (by kernel_rfl) (fun _ _ _ h => h) (.inl ⟨by rfl, fun W1 h1 => by go_simp⟩) hW ?_
            try simp only [Act.put, List.setIfInBounds_toArray, List.set_cons_zero, List.set_cons_succ]
            refine wpAnyH_take (i := 16) (oi := ⟨some 53, _, _, _, _, _⟩) (v := .bool true) rfl (by kernel_rfl) (by kernel_rfl) (by kernel_rfl) (fun _ _ _ h => h) (.inl ⟨by rfl, fun W1 h1 => by go_simp⟩) hW ?_
            try simp only [Act.put, List.setIfInBounds_toArray, List.set_cons_zero, List.set_cons_succ]
            refine wpAnyH_take (i := 17) (oi := ⟨some 54, _, _, _, _, _⟩) (v := undef) rfl (by kernel_rfl) (by kernel_rfl) (by kernel_rfl) (fun _ _ _ h => h) (.inr ⟨by rfl, rfl⟩) hW ?_
            try simp only [Act.put, List.setIfInBounds_toArray, List.set_cons_zero, List.set_cons_succ]
            refine wpAnyH_take (i := 18) (oi := ⟨some 55, _, _, _, _, _⟩) (v := undef) rfl (by kernel_rfl) (by kernel_rfl) (by kernel_rfl) (fun _ _ _ h => h) (.inr ⟨by rfl, rfl⟩) hW ?_
            try simp only [Act.put, List.setIfInBounds_toArray, List.set_cons_zero, List.set_cons_succ]
            refine wpAnyH_take (i := 19) (oi := ⟨some 56, _, _, _, _, _⟩) (v := undef) rfl (by kernel_rfl) (by kernel_rfl) (by kernel_rfl) (fun _ _ _ h => h) (.inr ⟨by rfl, rfl⟩) hW ?_
            try simp only [Act.put, List.setIfInBounds_toArray, List.set_cons_zero, List.set_cons_succ]
            refine wpAnyH_take (i := 20) (oi := ⟨some 57, _, _, _, _, _⟩) (v := undef) rfl (by kernel_rfl) (by kernel_rfl) (by kernel_rfl) (fun _ _ _ h => h) (.inr ⟨by rfl, rfl⟩) hW ?_
            try simp only [Act.put, List.setIfInBounds_toArray, List.set_cons_zero, List.set_cons_succ]
            refine wpAnyH_take (i := 21) (oi := ⟨some 58, _, _, _, _, _⟩) (v := undef) rfl (by kernel_rfl) (by kernel_rfl) (by kernel_rfl) (fun _ _ _ h => h) (.inr ⟨by rfl, rfl⟩) hW ?_
            try simp only [Act.put, List.setIfInBounds_toArray, List.set_cons_zero, List.set_cons_succ]
            refine wpAnyH_take (i := 22) (oi := ⟨some 59, _, _, _, _, _⟩) (v := undef) rfl (by kernel_rfl) (by kernel_rfl) (by kernel_rfl) (fun _ _ _ h => h) (.inr ⟨by rfl, rfl⟩) hW ?_
            try simp only [Act.put, List.setIfInBounds_toArray, List.set_cons_zero, List.set_cons_succ]
            refine wpAnyH_take (i := 23) (oi := ⟨some 60, _, _, _, _, _⟩) (v := undef) rfl (by kernel_rfl) (by kernel_rfl) (by kernel_rfl) (fun _ _ _ h => h) (.inr ⟨by rfl, rfl⟩) hW ?_
            try simp only [Act.put, List.setIfInBounds_toArray, List.set_cons_zero, List.set_cons_succ]
            refine wpAnyH_take (i := 24) (oi := ⟨some 61, _, _, _, _, _⟩) (v := undef) rfl (by kernel_rfl) (by kernel_rfl) (by kernel_rfl) (fun _ _ _ h => h) (.inr ⟨by rfl, rfl⟩) hW ?_
            try simp only [Act.put, List.setIfInBounds_toArray, List.set_cons_zero, List.set_cons_succ]
            refine wpAnyH_take (i := 25) (oi := ⟨some 62, _, _, _, _, _⟩) (v := undef) rfl (by kernel_rfl) (by kernel_rfl) (by kernel_rfl) (fun _ _ _ h => h) (.inr ⟨by rfl, rfl⟩) hW ?_
            try simp only [Act.put, List.setIfInBounds_toArray, List.set_cons_zero, List.set_cons_succ]
            refine wpAnyH_take (i := 26) (oi := ⟨some 63, _, _, _, _, _⟩) (v := undef) rfl (by kernel_rfl) (by kernel_rfl) (by kernel_rfl) (fun _ _ _ h => h) (.inr ⟨by rfl, rfl⟩) hW ?_
            try simp only [Act.put, List.setIfInBounds_toArray, List.set_cons_zero, List.set_cons_succ]
            refine wpAnyH_take (i := 27) (oi := ⟨some 64, _, _, _, _, _⟩) (v := undef) rfl (by kernel_rfl) (by kernel_rfl) (by kernel_rfl) (fun _ _ _ h => h) (.inr ⟨by rfl, rfl⟩) hW ?_
            try simp only [Act.put, List.setIfInBounds_toArray, List.set_cons_zero, List.set_cons_succ]
            refine wpAnyH_take (i := 28) (oi := ⟨some 65, _, _, _, _, _⟩) (v := undef) rfl (by kernel_rfl) (by kernel_rfl) (by kernel_rfl) (fun _ _ _ h => h) (.inr ⟨by rfl, rfl⟩) hW ?_
            try simp only [Act.put, List.setIfInBounds_toArray, List.set_cons_zero, List.set_cons_succ]
            refine wpAnyH_take (i := 29) (oi := ⟨some 66, _, _, _, _, _⟩) (v := undef) rfl (by kernel_rfl) (by kernel_rfl) (by kernel_rfl) (fun _ _ _ h => h) (.inr ⟨by rfl, rfl⟩) hW ?_
            try simp only [Act.put, List.setIfInBounds_toArray, List.set_cons_zero, List.set_cons_succ]
            refine wpAnyH_take (i := 30) (oi := ⟨some 67, _, _, _, _, _⟩) (v := undef) rfl (by kernel_rfl) (by kernel_rfl) (by kernel_rfl) (fun _ _ _ h => h) (.inr ⟨by rfl, rfl⟩) hW ?_
            try simp only [Act.put, List.setIfInBounds_toArray, List.set_cons_zero, List.set_cons_succ]
            refine wpAnyH_take (i := 31) (oi := ⟨some 68, _, _, _, _, _⟩) (v := undef) rfl (by kernel_rfl) (by kernel_rfl) (by kernel_rfl) (fun _ _ _ h => h) (.inr ⟨by rfl, rfl⟩) hW ?_
            try simp only [Act.put, List.setIfInBounds_toArray, List.set_cons_zero, List.set_cons_succ]
            refine wpAnyH_take (i := 32) (oi := ⟨some 69, _, _, _, _, _⟩) (v := undef) rfl (by kernel_rfl) (by kernel_rfl) (by kernel_rfl) (fun _ _ _ h => h) (.inr ⟨by rfl, rfl⟩) hW ?_
            try simp only [Act.put, List.setIfInBounds_toArray, List.set_cons_zero, List.set_cons_succ]
            refine wpAnyH_take (i := 33) (oi := ⟨some 70, _, _, _, _, _⟩) (v := undef) rfl (by kernel_rfl) (by kernel_rfl) (by kernel_rfl) (fun _ _ _ h => h) (.inr ⟨by rfl, rfl⟩) hW ?_
            try simp only [Act.put, List.setIfInBounds_toArray, List.set_cons_zero, List.set_cons_succ]
            refine wpAnyH_take (i := 34) (oi := ⟨some 71, _, _, _, _, _⟩) (v := .bool true) rfl (by kernel_rfl) (by kernel_rfl) (by kernel_rfl) (fun _ _ _ h => h) (.inl ⟨by rfl, fun W1 h1 => by go_simp⟩) hW ?_
            try simp only [Act.put, List.setIfInBounds_toArray, List.set_cons_zero, List.set_cons_succ]
            refine wpAnyH_done (by kernel_rfl) ?_ _
            have HF := Aside0.mk (rightB_false (x := ⟨emp, snap, l⟩) (fun h => by have := (h.all _ _ HYL.out).inn; have := HL.out.2.1; omega))
            have HWF := Aside0.mk (below_then HBb.out HBb.out.size hS0)
            clear hS0 hW
            go_wp2
            rw [HP.out, HF.out]
            exact ⟨rfl, HWF.out⟩
          by_cases hD : 65536 < p.n3
          · have dK : decide ((160 : Int) < (p.n1 : Int)) = false := decide_eq_false (by omega)
            have dI : decide ((400 : Int) < (p.n2 : Int)) = false := decide_eq_false (by omega)
            have dD : decide ((65536 : Int) < (p.n3 : Int)) = true := decide_eq_true (by omega)
            refine wp_region_held_drew (S := fun w' => Below Wb.heap.size Wb w') (by kernel_rfl) hS0 (fun hW => ?_)
            refine wpAnyH_take (i := 0) (oi := ⟨some 37, _, _, _, _, _⟩) (v := .pointer (some ⟨wr.heap.size + 1, 0, none⟩)) rfl (by kernel_rfl) (by kernel_rfl) (by kernel_rfl) (fun _ _ _ h => h) (.inl ⟨by rfl, fun W1 h1 => by go_simp⟩) hW ?_
            try simp only [Act.put, List.setIfInBounds_toArray, List.set_cons_zero, List.set_cons_succ]
            refine wpAnyH_take (i := 1) (oi := ⟨some 38, _, _, _, _, _⟩) (v := .slice p.A1 p.n1 p.c1) rfl (by kernel_rfl) (by kernel_rfl) (by kernel_rfl) (fun _ _ _ h => h) (.inl ⟨by rfl, fun W1 h1 => by (have x1 : W1.cell? ⟨wr.heap.size + 1, 0, none⟩ = some (.slice p.A1 p.n1 p.c1) := (by rw [cell_of_row _ _ 0 _ 131 (0, 0) (blk_below G5.out.2.1 h1)]; rfl)); go_simp⟩) hW ?_
            try simp only [Act.put, List.setIfInBounds_toArray, List.set_cons_zero, List.set_cons_succ]
            refine wpAnyH_take (i := 2) (oi := ⟨some 39, _, _, _, _, _⟩) (v := .int .i64 (p.n1 : Int)) rfl (by kernel_rfl) (by kernel_rfl) (by kernel_rfl) (fun _ _ _ h => h) (.inl ⟨by rfl, fun W1 h1 => by go_simp⟩) hW ?_
            try simp only [Act.put, List.setIfInBounds_toArray, List.set_cons_zero, List.set_cons_succ]
            refine wpAnyH_take (i := 3) (oi := ⟨some 40, _, _, _, _, _⟩) (v := .bool false) rfl (by kernel_rfl) (by kernel_rfl) (by kernel_rfl) (fun _ _ _ h => h) (.inl ⟨by rfl, fun W1 h1 => by go_simp⟩) hW ?_
            try simp only [Act.put, List.setIfInBounds_toArray, List.set_cons_zero, List.set_cons_succ]
            refine wpAnyH_take (i := 4) (oi := ⟨some 41, _, _, _, _, _⟩) (v := .bool false) rfl (by kernel_rfl) (by kernel_rfl) (by kernel_rfl) (fun _ _ _ h => h) (.inl ⟨by rfl, fun W1 h1 => by go_simp⟩) hW ?_
            try simp only [Act.put, List.setIfInBounds_toArray, List.set_cons_zero, List.set_cons_succ]
            refine wpAnyH_take (i := 5) (oi := ⟨some 42, _, _, _, _, _⟩) (v := .pointer (some ⟨wr.heap.size + 1, 1, none⟩)) rfl (by kernel_rfl) (by kernel_rfl) (by kernel_rfl) (fun _ _ _ h => h) (.inl ⟨by rfl, fun W1 h1 => by go_simp⟩) hW ?_
            try simp only [Act.put, List.setIfInBounds_toArray, List.set_cons_zero, List.set_cons_succ]
            refine wpAnyH_take (i := 6) (oi := ⟨some 43, _, _, _, _, _⟩) (v := .slice p.A2 p.n2 p.c2) rfl (by kernel_rfl) (by kernel_rfl) (by kernel_rfl) (fun _ _ _ h => h) (.inl ⟨by rfl, fun W1 h1 => by (have x1 : W1.cell? ⟨wr.heap.size + 1, 1, none⟩ = some (.slice p.A2 p.n2 p.c2) := (by rw [cell_of_row _ _ 1 _ 131 (0, 0) (blk_below G5.out.2.1 h1)]; rfl)); go_simp⟩) hW ?_
            try simp only [Act.put, List.setIfInBounds_toArray, List.set_cons_zero, List.set_cons_succ]
            refine wpAnyH_take (i := 7) (oi := ⟨some 44, _, _, _, _, _⟩) (v := .int .i64 (p.n2 : Int)) rfl (by kernel_rfl) (by kernel_rfl) (by kernel_rfl) (fun _ _ _ h => h) (.inl ⟨by rfl, fun W1 h1 => by go_simp⟩) hW ?_
            try simp only [Act.put, List.setIfInBounds_toArray, List.set_cons_zero, List.set_cons_succ]
            refine wpAnyH_take (i := 8) (oi := ⟨some 45, _, _, _, _, _⟩) (v := .bool false) rfl (by kernel_rfl) (by kernel_rfl) (by kernel_rfl) (fun _ _ _ h => h) (.inl ⟨by rfl, fun W1 h1 => by go_simp⟩) hW ?_
            try simp only [Act.put, List.setIfInBounds_toArray, List.set_cons_zero, List.set_cons_succ]
            refine wpAnyH_take (i := 9) (oi := ⟨some 46, _, _, _, _, _⟩) (v := .bool false) rfl (by kernel_rfl) (by kernel_rfl) (by kernel_rfl) (fun _ _ _ h => h) (.inl ⟨by rfl, fun W1 h1 => by go_simp⟩) hW ?_
            try simp only [Act.put, List.setIfInBounds_toArray, List.set_cons_zero, List.set_cons_succ]
            refine wpAnyH_take (i := 10) (oi := ⟨some 47, _, _, _, _, _⟩) (v := .bool false) rfl (by kernel_rfl) (by kernel_rfl) (by kernel_rfl) (fun _ _ _ h => h) (.inl ⟨by rfl, fun W1 h1 => by go_simp⟩) hW ?_
            try simp only [Act.put, List.setIfInBounds_toArray, List.set_cons_zero, List.set_cons_succ]
            refine wpAnyH_take (i := 11) (oi := ⟨some 48, _, _, _, _, _⟩) (v := .pointer (some ⟨wr.heap.size + 1, 2, none⟩)) rfl (by kernel_rfl) (by kernel_rfl) (by kernel_rfl) (fun _ _ _ h => h) (.inl ⟨by rfl, fun W1 h1 => by go_simp⟩) hW ?_
            try simp only [Act.put, List.setIfInBounds_toArray, List.set_cons_zero, List.set_cons_succ]
            refine wpAnyH_take (i := 12) (oi := ⟨some 49, _, _, _, _, _⟩) (v := .slice p.A3 p.n3 p.c3) rfl (by kernel_rfl) (by kernel_rfl) (by kernel_rfl) (fun _ _ _ h => h) (.inl ⟨by rfl, fun W1 h1 => by (have x1 : W1.cell? ⟨wr.heap.size + 1, 2, none⟩ = some (.slice p.A3 p.n3 p.c3) := (by rw [cell_of_row _ _ 2 _ 131 (0, 0) (blk_below G5.out.2.1 h1)]; rfl)); go_simp⟩) hW ?_
            try simp only [Act.put, List.setIfInBounds_toArray, List.set_cons_zero, List.set_cons_succ]
            refine wpAnyH_take (i := 13) (oi := ⟨some 50, _, _, _, _, _⟩) (v := .int .i64 (p.n3 : Int)) rfl (by kernel_rfl) (by kernel_rfl) (by kernel_rfl) (fun _ _ _ h => h) (.inl ⟨by rfl, fun W1 h1 => by go_simp⟩) hW ?_
            try simp only [Act.put, List.setIfInBounds_toArray, List.set_cons_zero, List.set_cons_succ]
            refine wpAnyH_take (i := 14) (oi := ⟨some 51, _, _, _, _, _⟩) (v := .bool true) rfl (by kernel_rfl) (by kernel_rfl) (by kernel_rfl) (fun _ _ _ h => h) (.inl ⟨by rfl, fun W1 h1 => by go_simp⟩) hW ?_
            try simp only [Act.put, List.setIfInBounds_toArray, List.set_cons_zero, List.set_cons_succ]
            refine wpAnyH_take (i := 15) (oi := ⟨some 52, _, _, _, _, _⟩) (v := .bool true) rfl (by kernel_rfl) (by kernel_rfl) (by kernel_rfl) (fun _ _ _ h => h) (.inl ⟨by rfl, fun W1 h1 => by go_simp⟩) hW ?_
            try simp only [Act.put, List.setIfInBounds_toArray, List.set_cons_zero, List.set_cons_succ]
            refine wpAnyH_take (i := 16) (oi := ⟨some 53, _, _, _, _, _⟩) (v := .bool true) rfl (by kernel_rfl) (by kernel_rfl) (by kernel_rfl) (fun _ _ _ h => h) (.inl ⟨by rfl, fun W1 h1 => by go_simp⟩) hW ?_
            try simp only [Act.put, List.setIfInBounds_toArray, List.set_cons_zero, List.set_cons_succ]
            refine wpAnyH_take (i := 17) (oi := ⟨some 54, _, _, _, _, _⟩) (v := undef) rfl (by kernel_rfl) (by kernel_rfl) (by kernel_rfl) (fun _ _ _ h => h) (.inr ⟨by rfl, rfl⟩) hW ?_
            try simp only [Act.put, List.setIfInBounds_toArray, List.set_cons_zero, List.set_cons_succ]
            refine wpAnyH_take (i := 18) (oi := ⟨some 55, _, _, _, _, _⟩) (v := undef) rfl (by kernel_rfl) (by kernel_rfl) (by kernel_rfl) (fun _ _ _ h => h) (.inr ⟨by rfl, rfl⟩) hW ?_
            try simp only [Act.put, List.setIfInBounds_toArray, List.set_cons_zero, List.set_cons_succ]
            refine wpAnyH_take (i := 19) (oi := ⟨some 56, _, _, _, _, _⟩) (v := undef) rfl (by kernel_rfl) (by kernel_rfl) (by kernel_rfl) (fun _ _ _ h => h) (.inr ⟨by rfl, rfl⟩) hW ?_
            try simp only [Act.put, List.setIfInBounds_toArray, List.set_cons_zero, List.set_cons_succ]
            refine wpAnyH_take (i := 20) (oi := ⟨some 57, _, _, _, _, _⟩) (v := undef) rfl (by kernel_rfl) (by kernel_rfl) (by kernel_rfl) (fun _ _ _ h => h) (.inr ⟨by rfl, rfl⟩) hW ?_
            try simp only [Act.put, List.setIfInBounds_toArray, List.set_cons_zero, List.set_cons_succ]
            refine wpAnyH_take (i := 21) (oi := ⟨some 58, _, _, _, _, _⟩) (v := undef) rfl (by kernel_rfl) (by kernel_rfl) (by kernel_rfl) (fun _ _ _ h => h) (.inr ⟨by rfl, rfl⟩) hW ?_
            try simp only [Act.put, List.setIfInBounds_toArray, List.set_cons_zero, List.set_cons_succ]
            refine wpAnyH_take (i := 22) (oi := ⟨some 59, _, _, _, _, _⟩) (v := undef) rfl (by kernel_rfl) (by kernel_rfl) (by kernel_rfl) (fun _ _ _ h => h) (.inr ⟨by rfl, rfl⟩) hW ?_
            try simp only [Act.put, List.setIfInBounds_toArray, List.set_cons_zero, List.set_cons_succ]
            refine wpAnyH_take (i := 23) (oi := ⟨some 60, _, _, _, _, _⟩) (v := undef) rfl (by kernel_rfl) (by kernel_rfl) (by kernel_rfl) (fun _ _ _ h => h) (.inr ⟨by rfl, rfl⟩) hW ?_
            try simp only [Act.put, List.setIfInBounds_toArray, List.set_cons_zero, List.set_cons_succ]
            refine wpAnyH_take (i := 24) (oi := ⟨some 61, _, _, _, _, _⟩) (v := undef) rfl (by kernel_rfl) (by kernel_rfl) (by kernel_rfl) (fun _ _ _ h => h) (.inr ⟨by rfl, rfl⟩) hW ?_
            try simp only [Act.put, List.setIfInBounds_toArray, List.set_cons_zero, List.set_cons_succ]
            refine wpAnyH_take (i := 25) (oi := ⟨some 62, _, _, _, _, _⟩) (v := undef) rfl (by kernel_rfl) (by kernel_rfl) (by kernel_rfl) (fun _ _ _ h => h) (.inr ⟨by rfl, rfl⟩) hW ?_
            try simp only [Act.put, List.setIfInBounds_toArray, List.set_cons_zero, List.set_cons_succ]
            refine wpAnyH_take (i := 26) (oi := ⟨some 63, _, _, _, _, _⟩) (v := undef) rfl (by kernel_rfl) (by kernel_rfl) (by kernel_rfl) (fun _ _ _ h => h) (.inr ⟨by rfl, rfl⟩) hW ?_
            try simp only [Act.put, List.setIfInBounds_toArray, List.set_cons_zero, List.set_cons_succ]
            refine wpAnyH_take (i := 27) (oi := ⟨some 64, _, _, _, _, _⟩) (v := undef) rfl (by kernel_rfl) (by kernel_rfl) (by kernel_rfl) (fun _ _ _ h => h) (.inr ⟨by rfl, rfl⟩) hW ?_
            try simp only [Act.put, List.setIfInBounds_toArray, List.set_cons_zero, List.set_cons_succ]
            refine wpAnyH_take (i := 28) (oi := ⟨some 65, _, _, _, _, _⟩) (v := undef) rfl (by kernel_rfl) (by kernel_rfl) (by kernel_rfl) (fun _ _ _ h => h) (.inr ⟨by rfl, rfl⟩) hW ?_
            try simp only [Act.put, List.setIfInBounds_toArray, List.set_cons_zero, List.set_cons_succ]
            refine wpAnyH_take (i := 29) (oi := ⟨some 66, _, _, _, _, _⟩) (v := undef) rfl (by kernel_rfl) (by kernel_rfl) (by kernel_rfl) (fun _ _ _ h => h) (.inr ⟨by rfl, rfl⟩) hW ?_
            try simp only [Act.put, List.setIfInBounds_toArray, List.set_cons_zero, List.set_cons_succ]
            refine wpAnyH_take (i := 30) (oi := ⟨some 67, _, _, _, _, _⟩) (v := undef) rfl (by kernel_rfl) (by kernel_rfl) (by kernel_rfl) (fun _ _ _ h => h) (.inr ⟨by rfl, rfl⟩) hW ?_
            try simp only [Act.put, List.setIfInBounds_toArray, List.set_cons_zero, List.set_cons_succ]
            refine wpAnyH_take (i := 31) (oi := ⟨some 68, _, _, _, _, _⟩) (v := undef) rfl (by kernel_rfl) (by kernel_rfl) (by kernel_rfl) (fun _ _ _ h => h) (.inr ⟨by rfl, rfl⟩) hW ?_
            try simp only [Act.put, List.setIfInBounds_toArray, List.set_cons_zero, List.set_cons_succ]
            refine wpAnyH_take (i := 32) (oi := ⟨some 69, _, _, _, _, _⟩) (v := undef) rfl (by kernel_rfl) (by kernel_rfl) (by kernel_rfl) (fun _ _ _ h => h) (.inr ⟨by rfl, rfl⟩) hW ?_
            try simp only [Act.put, List.setIfInBounds_toArray, List.set_cons_zero, List.set_cons_succ]
            refine wpAnyH_take (i := 33) (oi := ⟨some 70, _, _, _, _, _⟩) (v := undef) rfl (by kernel_rfl) (by kernel_rfl) (by kernel_rfl) (fun _ _ _ h => h) (.inr ⟨by rfl, rfl⟩) hW ?_
            try simp only [Act.put, List.setIfInBounds_toArray, List.set_cons_zero, List.set_cons_succ]
            refine wpAnyH_take (i := 34) (oi := ⟨some 71, _, _, _, _, _⟩) (v := .bool true) rfl (by kernel_rfl) (by kernel_rfl) (by kernel_rfl) (fun _ _ _ h => h) (.inl ⟨by rfl, fun W1 h1 => by go_simp⟩) hW ?_
            try simp only [Act.put, List.setIfInBounds_toArray, List.set_cons_zero, List.set_cons_succ]
            refine wpAnyH_done (by kernel_rfl) ?_ _
            have HF := Aside0.mk (rightB_false (x := ⟨emp, snap, l⟩) (fun h => by have := (h.all _ _ HYL.out).data; have := HL.out.2.2; omega))
            have HWF := Aside0.mk (below_then HBb.out HBb.out.size hS0)
            clear hS0 hW
            go_wp2
            rw [HP.out, HF.out]
            exact ⟨rfl, HWF.out⟩
          have dK : decide ((160 : Int) < (p.n1 : Int)) = false := decide_eq_false (by omega)
          have dI : decide ((400 : Int) < (p.n2 : Int)) = false := decide_eq_false (by omega)
          have dD : decide ((65536 : Int) < (p.n3 : Int)) = false := decide_eq_false (by omega)
          rcases j with _ | m
          · refine wp_region_held_drew (S := fun w' => Below Wb.heap.size Wb w') (by kernel_rfl) hS0 (fun hW => ?_)
            refine wpAnyH_take (i := 0) (oi := ⟨some 37, _, _, _, _, _⟩) (v := .pointer (some ⟨wr.heap.size + 1, 0, none⟩)) rfl (by kernel_rfl) (by kernel_rfl) (by kernel_rfl) (fun _ _ _ h => h) (.inl ⟨by rfl, fun W1 h1 => by go_simp⟩) hW ?_
            try simp only [Act.put, List.setIfInBounds_toArray, List.set_cons_zero, List.set_cons_succ]
            refine wpAnyH_take (i := 1) (oi := ⟨some 38, _, _, _, _, _⟩) (v := .slice p.A1 p.n1 p.c1) rfl (by kernel_rfl) (by kernel_rfl) (by kernel_rfl) (fun _ _ _ h => h) (.inl ⟨by rfl, fun W1 h1 => by (have x1 : W1.cell? ⟨wr.heap.size + 1, 0, none⟩ = some (.slice p.A1 p.n1 p.c1) := (by rw [cell_of_row _ _ 0 _ 131 (0, 0) (blk_below G5.out.2.1 h1)]; rfl)); go_simp⟩) hW ?_
            try simp only [Act.put, List.setIfInBounds_toArray, List.set_cons_zero, List.set_cons_succ]
            refine wpAnyH_take (i := 2) (oi := ⟨some 39, _, _, _, _, _⟩) (v := .int .i64 (p.n1 : Int)) rfl (by kernel_rfl) (by kernel_rfl) (by kernel_rfl) (fun _ _ _ h => h) (.inl ⟨by rfl, fun W1 h1 => by go_simp⟩) hW ?_
            try simp only [Act.put, List.setIfInBounds_toArray, List.set_cons_zero, List.set_cons_succ]
            refine wpAnyH_take (i := 3) (oi := ⟨some 40, _, _, _, _, _⟩) (v := .bool false) rfl (by kernel_rfl) (by kernel_rfl) (by kernel_rfl) (fun _ _ _ h => h) (.inl ⟨by rfl, fun W1 h1 => by go_simp⟩) hW ?_
            try simp only [Act.put, List.setIfInBounds_toArray, List.set_cons_zero, List.set_cons_succ]
            refine wpAnyH_take (i := 4) (oi := ⟨some 41, _, _, _, _, _⟩) (v := .bool false) rfl (by kernel_rfl) (by kernel_rfl) (by kernel_rfl) (fun _ _ _ h => h) (.inl ⟨by rfl, fun W1 h1 => by go_simp⟩) hW ?_
            try simp only [Act.put, List.setIfInBounds_toArray, List.set_cons_zero, List.set_cons_succ]
            refine wpAnyH_take (i := 5) (oi := ⟨some 42, _, _, _, _, _⟩) (v := .pointer (some ⟨wr.heap.size + 1, 1, none⟩)) rfl (by kernel_rfl) (by kernel_rfl) (by kernel_rfl) (fun _ _ _ h => h) (.inl ⟨by rfl, fun W1 h1 => by go_simp⟩) hW ?_
            try simp only [Act.put, List.setIfInBounds_toArray, List.set_cons_zero, List.set_cons_succ]
            refine wpAnyH_take (i := 6) (oi := ⟨some 43, _, _, _, _, _⟩) (v := .slice p.A2 p.n2 p.c2) rfl (by kernel_rfl) (by kernel_rfl) (by kernel_rfl) (fun _ _ _ h => h) (.inl ⟨by rfl, fun W1 h1 => by (have x1 : W1.cell? ⟨wr.heap.size + 1, 1, none⟩ = some (.slice p.A2 p.n2 p.c2) := (by rw [cell_of_row _ _ 1 _ 131 (0, 0) (blk_below G5.out.2.1 h1)]; rfl)); go_simp⟩) hW ?_
            try simp only [Act.put, List.setIfInBounds_toArray, List.set_cons_zero, List.set_cons_succ]
            refine wpAnyH_take (i := 7) (oi := ⟨some 44, _, _, _, _, _⟩) (v := .int .i64 (p.n2 : Int)) rfl (by kernel_rfl) (by kernel_rfl) (by kernel_rfl) (fun _ _ _ h => h) (.inl ⟨by rfl, fun W1 h1 => by go_simp⟩) hW ?_
            try simp only [Act.put, List.setIfInBounds_toArray, List.set_cons_zero, List.set_cons_succ]
            refine wpAnyH_take (i := 8) (oi := ⟨some 45, _, _, _, _, _⟩) (v := .bool false) rfl (by kernel_rfl) (by kernel_rfl) (by kernel_rfl) (fun _ _ _ h => h) (.inl ⟨by rfl, fun W1 h1 => by go_simp⟩) hW ?_
            try simp only [Act.put, List.setIfInBounds_toArray, List.set_cons_zero, List.set_cons_succ]
            refine wpAnyH_take (i := 9) (oi := ⟨some 46, _, _, _, _, _⟩) (v := .bool false) rfl (by kernel_rfl) (by kernel_rfl) (by kernel_rfl) (fun _ _ _ h => h) (.inl ⟨by rfl, fun W1 h1 => by go_simp⟩) hW ?_
            try simp only [Act.put, List.setIfInBounds_toArray, List.set_cons_zero, List.set_cons_succ]
            refine wpAnyH_take (i := 10) (oi := ⟨some 47, _, _, _, _, _⟩) (v := .bool false) rfl (by kernel_rfl) (by kernel_rfl) (by kernel_rfl) (fun _ _ _ h => h) (.inl ⟨by rfl, fun W1 h1 => by go_simp⟩) hW ?_
            try simp only [Act.put, List.setIfInBounds_toArray, List.set_cons_zero, List.set_cons_succ]
            refine wpAnyH_take (i := 11) (oi := ⟨some 48, _, _, _, _, _⟩) (v := .pointer (some ⟨wr.heap.size + 1, 2, none⟩)) rfl (by kernel_rfl) (by kernel_rfl) (by kernel_rfl) (fun _ _ _ h => h) (.inl ⟨by rfl, fun W1 h1 => by go_simp⟩) hW ?_
            try simp only [Act.put, List.setIfInBounds_toArray, List.set_cons_zero, List.set_cons_succ]
            refine wpAnyH_take (i := 12) (oi := ⟨some 49, _, _, _, _, _⟩) (v := .slice p.A3 p.n3 p.c3) rfl (by kernel_rfl) (by kernel_rfl) (by kernel_rfl) (fun _ _ _ h => h) (.inl ⟨by rfl, fun W1 h1 => by (have x1 : W1.cell? ⟨wr.heap.size + 1, 2, none⟩ = some (.slice p.A3 p.n3 p.c3) := (by rw [cell_of_row _ _ 2 _ 131 (0, 0) (blk_below G5.out.2.1 h1)]; rfl)); go_simp⟩) hW ?_
            try simp only [Act.put, List.setIfInBounds_toArray, List.set_cons_zero, List.set_cons_succ]
            refine wpAnyH_take (i := 13) (oi := ⟨some 50, _, _, _, _, _⟩) (v := .int .i64 (p.n3 : Int)) rfl (by kernel_rfl) (by kernel_rfl) (by kernel_rfl) (fun _ _ _ h => h) (.inl ⟨by rfl, fun W1 h1 => by go_simp⟩) hW ?_
            try simp only [Act.put, List.setIfInBounds_toArray, List.set_cons_zero, List.set_cons_succ]
            refine wpAnyH_take (i := 14) (oi := ⟨some 51, _, _, _, _, _⟩) (v := .bool false) rfl (by kernel_rfl) (by kernel_rfl) (by kernel_rfl) (fun _ _ _ h => h) (.inl ⟨by rfl, fun W1 h1 => by go_simp⟩) hW ?_
            try simp only [Act.put, List.setIfInBounds_toArray, List.set_cons_zero, List.set_cons_succ]
            refine wpAnyH_take (i := 15) (oi := ⟨some 52, _, _, _, _, _⟩) (v := .bool false) rfl (by kernel_rfl) (by kernel_rfl) (by kernel_rfl) (fun _ _ _ h => h) (.inl ⟨by rfl, fun W1 h1 => by go_simp⟩) hW ?_
            try simp only [Act.put, List.setIfInBounds_toArray, List.set_cons_zero, List.set_cons_succ]
            refine wpAnyH_take (i := 16) (oi := ⟨some 53, _, _, _, _, _⟩) (v := .bool false) rfl (by kernel_rfl) (by kernel_rfl) (by kernel_rfl) (fun _ _ _ h => h) (.inl ⟨by rfl, fun W1 h1 => by go_simp⟩) hW ?_
            try simp only [Act.put, List.setIfInBounds_toArray, List.set_cons_zero, List.set_cons_succ]
            refine wpAnyH_take (i := 17) (oi := ⟨some 54, _, _, _, _, _⟩) (v := .int .i64 (0 : Int)) rfl (by kernel_rfl) (by kernel_rfl) (by kernel_rfl) (fun _ _ _ h => h) (.inl ⟨by rfl, fun W1 h1 => by go_simp⟩) hW ?_
            try simp only [Act.put, List.setIfInBounds_toArray, List.set_cons_zero, List.set_cons_succ]
            refine wpAnyH_take (i := 18) (oi := ⟨some 55, _, _, _, _, _⟩) (v := .bool false) rfl (by kernel_rfl) (by kernel_rfl) (by kernel_rfl) (fun _ _ _ h => h) (.inl ⟨by rfl, fun W1 h1 => by go_simp⟩) hW ?_
            try simp only [Act.put, List.setIfInBounds_toArray, List.set_cons_zero, List.set_cons_succ]
            refine wpAnyH_take (i := 19) (oi := ⟨some 56, _, _, _, _, _⟩) (v := .bool false) rfl (by kernel_rfl) (by kernel_rfl) (by kernel_rfl) (fun _ _ _ h => h) (.inl ⟨by rfl, fun W1 h1 => by go_simp⟩) hW ?_
            try simp only [Act.put, List.setIfInBounds_toArray, List.set_cons_zero, List.set_cons_succ]
            refine wpAnyH_take (i := 20) (oi := ⟨some 57, _, _, _, _, _⟩) (v := undef) rfl (by kernel_rfl) (by kernel_rfl) (by kernel_rfl) (fun _ _ _ h => h) (.inr ⟨by rfl, rfl⟩) hW ?_
            try simp only [Act.put, List.setIfInBounds_toArray, List.set_cons_zero, List.set_cons_succ]
            refine wpAnyH_take (i := 21) (oi := ⟨some 58, _, _, _, _, _⟩) (v := undef) rfl (by kernel_rfl) (by kernel_rfl) (by kernel_rfl) (fun _ _ _ h => h) (.inr ⟨by rfl, rfl⟩) hW ?_
            try simp only [Act.put, List.setIfInBounds_toArray, List.set_cons_zero, List.set_cons_succ]
            refine wpAnyH_take (i := 22) (oi := ⟨some 59, _, _, _, _, _⟩) (v := undef) rfl (by kernel_rfl) (by kernel_rfl) (by kernel_rfl) (fun _ _ _ h => h) (.inr ⟨by rfl, rfl⟩) hW ?_
            try simp only [Act.put, List.setIfInBounds_toArray, List.set_cons_zero, List.set_cons_succ]
            refine wpAnyH_take (i := 23) (oi := ⟨some 60, _, _, _, _, _⟩) (v := undef) rfl (by kernel_rfl) (by kernel_rfl) (by kernel_rfl) (fun _ _ _ h => h) (.inr ⟨by rfl, rfl⟩) hW ?_
            try simp only [Act.put, List.setIfInBounds_toArray, List.set_cons_zero, List.set_cons_succ]
            refine wpAnyH_take (i := 24) (oi := ⟨some 61, _, _, _, _, _⟩) (v := undef) rfl (by kernel_rfl) (by kernel_rfl) (by kernel_rfl) (fun _ _ _ h => h) (.inr ⟨by rfl, rfl⟩) hW ?_
            try simp only [Act.put, List.setIfInBounds_toArray, List.set_cons_zero, List.set_cons_succ]
            refine wpAnyH_take (i := 25) (oi := ⟨some 62, _, _, _, _, _⟩) (v := undef) rfl (by kernel_rfl) (by kernel_rfl) (by kernel_rfl) (fun _ _ _ h => h) (.inr ⟨by rfl, rfl⟩) hW ?_
            try simp only [Act.put, List.setIfInBounds_toArray, List.set_cons_zero, List.set_cons_succ]
            refine wpAnyH_take (i := 26) (oi := ⟨some 63, _, _, _, _, _⟩) (v := undef) rfl (by kernel_rfl) (by kernel_rfl) (by kernel_rfl) (fun _ _ _ h => h) (.inr ⟨by rfl, rfl⟩) hW ?_
            try simp only [Act.put, List.setIfInBounds_toArray, List.set_cons_zero, List.set_cons_succ]
            refine wpAnyH_take (i := 27) (oi := ⟨some 64, _, _, _, _, _⟩) (v := undef) rfl (by kernel_rfl) (by kernel_rfl) (by kernel_rfl) (fun _ _ _ h => h) (.inr ⟨by rfl, rfl⟩) hW ?_
            try simp only [Act.put, List.setIfInBounds_toArray, List.set_cons_zero, List.set_cons_succ]
            refine wpAnyH_take (i := 28) (oi := ⟨some 65, _, _, _, _, _⟩) (v := undef) rfl (by kernel_rfl) (by kernel_rfl) (by kernel_rfl) (fun _ _ _ h => h) (.inr ⟨by rfl, rfl⟩) hW ?_
            try simp only [Act.put, List.setIfInBounds_toArray, List.set_cons_zero, List.set_cons_succ]
            refine wpAnyH_take (i := 29) (oi := ⟨some 66, _, _, _, _, _⟩) (v := undef) rfl (by kernel_rfl) (by kernel_rfl) (by kernel_rfl) (fun _ _ _ h => h) (.inr ⟨by rfl, rfl⟩) hW ?_
            try simp only [Act.put, List.setIfInBounds_toArray, List.set_cons_zero, List.set_cons_succ]
            refine wpAnyH_take (i := 30) (oi := ⟨some 67, _, _, _, _, _⟩) (v := undef) rfl (by kernel_rfl) (by kernel_rfl) (by kernel_rfl) (fun _ _ _ h => h) (.inr ⟨by rfl, rfl⟩) hW ?_
            try simp only [Act.put, List.setIfInBounds_toArray, List.set_cons_zero, List.set_cons_succ]
            refine wpAnyH_take (i := 31) (oi := ⟨some 68, _, _, _, _, _⟩) (v := undef) rfl (by kernel_rfl) (by kernel_rfl) (by kernel_rfl) (fun _ _ _ h => h) (.inr ⟨by rfl, rfl⟩) hW ?_
            try simp only [Act.put, List.setIfInBounds_toArray, List.set_cons_zero, List.set_cons_succ]
            refine wpAnyH_take (i := 32) (oi := ⟨some 69, _, _, _, _, _⟩) (v := undef) rfl (by kernel_rfl) (by kernel_rfl) (by kernel_rfl) (fun _ _ _ h => h) (.inr ⟨by rfl, rfl⟩) hW ?_
            try simp only [Act.put, List.setIfInBounds_toArray, List.set_cons_zero, List.set_cons_succ]
            refine wpAnyH_take (i := 33) (oi := ⟨some 70, _, _, _, _, _⟩) (v := .bool false) rfl (by kernel_rfl) (by kernel_rfl) (by kernel_rfl) (fun _ _ _ h => h) (.inl ⟨by rfl, fun W1 h1 => by go_simp⟩) hW ?_
            try simp only [Act.put, List.setIfInBounds_toArray, List.set_cons_zero, List.set_cons_succ]
            refine wpAnyH_take (i := 34) (oi := ⟨some 71, _, _, _, _, _⟩) (v := .bool false) rfl (by kernel_rfl) (by kernel_rfl) (by kernel_rfl) (fun _ _ _ h => h) (.inl ⟨by rfl, fun W1 h1 => by go_simp⟩) hW ?_
            try simp only [Act.put, List.setIfInBounds_toArray, List.set_cons_zero, List.set_cons_succ]
            refine wpAnyH_done (by kernel_rfl) ?_ _
            have y4 : Wb.drew.cell? ⟨wr.heap.size, 3, none⟩ = some (.bool p.g) := by rw [cell_of_row _ _ 3 _ 133 (0, 0) (blk_below G5.out.2.2 hS0)]; rfl
            have y1 : Wb.drew.cell? ⟨w.heap.size, 0, none⟩ = some (.string emp) := by rw [cell_of_row _ _ 0 _ 79 (0, 0) (blk_below G5.out.1 hS0)]; rfl
            have y5 : Wb.drew.cell? ⟨wr.heap.size + 1, 1, none⟩ = some (.slice p.A2 p.n2 p.c2) := by rw [cell_of_row _ _ 1 _ 131 (0, 0) (blk_below G5.out.2.1 hS0)]; rfl
            have y6 : Wb.drew.cell? ⟨wr.heap.size + 1, 2, none⟩ = some (.slice p.A3 p.n3 p.c3) := by rw [cell_of_row _ _ 2 _ 131 (0, 0) (blk_below G5.out.2.1 hS0)]; rfl
            have HWF := Aside0.mk (below_then HBb.out HBb.out.size hS0)
            have HW0F := Aside0.mk (below_then HB0b.out HB0b.out.size hS0)
            clear hS0 hW
            generalize hpg : p.g = pg at *
            cases pg with
            | false =>
              have HO := Aside0.mk (upTo_succ (x := ⟨emp, snap, l⟩) HU.out HYL.out ⟨by have := HL.out.1; omega, by have := HL.out.2.1; omega, by have := HL.out.2.2; omega, fun k hk => by simp at hk, fun h => by rw [← HPG.out] at h; cases h⟩)
              go_wp2
              go_roundw
              case rel => exact ⟨0 + 1, by go_num, by omega, HO, HW0F⟩
              case measure => simp [intOf]; omega
            | true =>
              have HF := Aside0.mk (rightB_false (x := ⟨emp, snap, l⟩) (fun h => by have := ((h.all _ _ HYL.out).gone HPG.out.symm).1; exact this rfl))
              go_wp2
              rw [HP.out, HF.out]
              exact ⟨rfl, HWF.out⟩
          · have hxm := hx m (by omega)
            have hcm := H.out.each m (by omega)
            obtain ⟨q, hqq⟩ : ∃ q, q = xs.getD m default := ⟨_, rfl⟩
            obtain ⟨z, hzz⟩ : ∃ z, z = l.getD m default := ⟨_, rfl⟩
            rw [← hqq] at hxm hcm
            rw [← hzz] at hcm
            have HXQ := Aside0.mk hxm
            have HCQ := Aside0.mk hcm.1
            have HZL := Aside0.mk (show l[m]? = some z by
              have hl := H.out.len
              rw [hzz, List.getD_eq_getElem?_getD, List.getElem?_eq_getElem (by omega)]; rfl)
            have hwm : IntKind.i64.wrap (m : Int) = (m : Int) := by rw [IntKind.wrap_i64]; omega
            have hmn : m < n := by omega
            clear hxm hcm hqq hzz
            cases hge : Op.bytesLess z.key.toList y.key.toList with
            | false =>
              have hgq : ∀ W : World, (binOp .geq 9 (.string z.key) (.string y.key)).run Try.prog W = .ok (.bool true) W := fun W => by simp [binOp, Op.stringOp, hge]
              refine wp_region_held_drew (S := fun w' => Below Wb.heap.size Wb w') (by kernel_rfl) hS0 (fun hW => ?_)
              refine wpAnyH_take (i := 0) (oi := ⟨some 37, _, _, _, _, _⟩) (v := .pointer (some ⟨wr.heap.size + 1, 0, none⟩)) rfl (by kernel_rfl) (by kernel_rfl) (by kernel_rfl) (fun _ _ _ h => h) (.inl ⟨by rfl, fun W1 h1 => by go_simp⟩) hW ?_
              try simp only [Act.put, List.setIfInBounds_toArray, List.set_cons_zero, List.set_cons_succ]
              refine wpAnyH_take (i := 1) (oi := ⟨some 38, _, _, _, _, _⟩) (v := .slice p.A1 p.n1 p.c1) rfl (by kernel_rfl) (by kernel_rfl) (by kernel_rfl) (fun _ _ _ h => h) (.inl ⟨by rfl, fun W1 h1 => by (have x1 : W1.cell? ⟨wr.heap.size + 1, 0, none⟩ = some (.slice p.A1 p.n1 p.c1) := (by rw [cell_of_row _ _ 0 _ 131 (0, 0) (blk_below G5.out.2.1 h1)]; rfl)); go_simp⟩) hW ?_
              try simp only [Act.put, List.setIfInBounds_toArray, List.set_cons_zero, List.set_cons_succ]
              refine wpAnyH_take (i := 2) (oi := ⟨some 39, _, _, _, _, _⟩) (v := .int .i64 (p.n1 : Int)) rfl (by kernel_rfl) (by kernel_rfl) (by kernel_rfl) (fun _ _ _ h => h) (.inl ⟨by rfl, fun W1 h1 => by go_simp⟩) hW ?_
              try simp only [Act.put, List.setIfInBounds_toArray, List.set_cons_zero, List.set_cons_succ]
              refine wpAnyH_take (i := 3) (oi := ⟨some 40, _, _, _, _, _⟩) (v := .bool false) rfl (by kernel_rfl) (by kernel_rfl) (by kernel_rfl) (fun _ _ _ h => h) (.inl ⟨by rfl, fun W1 h1 => by go_simp⟩) hW ?_
              try simp only [Act.put, List.setIfInBounds_toArray, List.set_cons_zero, List.set_cons_succ]
              refine wpAnyH_take (i := 4) (oi := ⟨some 41, _, _, _, _, _⟩) (v := .bool false) rfl (by kernel_rfl) (by kernel_rfl) (by kernel_rfl) (fun _ _ _ h => h) (.inl ⟨by rfl, fun W1 h1 => by go_simp⟩) hW ?_
              try simp only [Act.put, List.setIfInBounds_toArray, List.set_cons_zero, List.set_cons_succ]
              refine wpAnyH_take (i := 5) (oi := ⟨some 42, _, _, _, _, _⟩) (v := .pointer (some ⟨wr.heap.size + 1, 1, none⟩)) rfl (by kernel_rfl) (by kernel_rfl) (by kernel_rfl) (fun _ _ _ h => h) (.inl ⟨by rfl, fun W1 h1 => by go_simp⟩) hW ?_
              try simp only [Act.put, List.setIfInBounds_toArray, List.set_cons_zero, List.set_cons_succ]
              refine wpAnyH_take (i := 6) (oi := ⟨some 43, _, _, _, _, _⟩) (v := .slice p.A2 p.n2 p.c2) rfl (by kernel_rfl) (by kernel_rfl) (by kernel_rfl) (fun _ _ _ h => h) (.inl ⟨by rfl, fun W1 h1 => by (have x1 : W1.cell? ⟨wr.heap.size + 1, 1, none⟩ = some (.slice p.A2 p.n2 p.c2) := (by rw [cell_of_row _ _ 1 _ 131 (0, 0) (blk_below G5.out.2.1 h1)]; rfl)); go_simp⟩) hW ?_
              try simp only [Act.put, List.setIfInBounds_toArray, List.set_cons_zero, List.set_cons_succ]
              refine wpAnyH_take (i := 7) (oi := ⟨some 44, _, _, _, _, _⟩) (v := .int .i64 (p.n2 : Int)) rfl (by kernel_rfl) (by kernel_rfl) (by kernel_rfl) (fun _ _ _ h => h) (.inl ⟨by rfl, fun W1 h1 => by go_simp⟩) hW ?_
              try simp only [Act.put, List.setIfInBounds_toArray, List.set_cons_zero, List.set_cons_succ]
              refine wpAnyH_take (i := 8) (oi := ⟨some 45, _, _, _, _, _⟩) (v := .bool false) rfl (by kernel_rfl) (by kernel_rfl) (by kernel_rfl) (fun _ _ _ h => h) (.inl ⟨by rfl, fun W1 h1 => by go_simp⟩) hW ?_
              try simp only [Act.put, List.setIfInBounds_toArray, List.set_cons_zero, List.set_cons_succ]
              refine wpAnyH_take (i := 9) (oi := ⟨some 46, _, _, _, _, _⟩) (v := .bool false) rfl (by kernel_rfl) (by kernel_rfl) (by kernel_rfl) (fun _ _ _ h => h) (.inl ⟨by rfl, fun W1 h1 => by go_simp⟩) hW ?_
              try simp only [Act.put, List.setIfInBounds_toArray, List.set_cons_zero, List.set_cons_succ]
              refine wpAnyH_take (i := 10) (oi := ⟨some 47, _, _, _, _, _⟩) (v := .bool false) rfl (by kernel_rfl) (by kernel_rfl) (by kernel_rfl) (fun _ _ _ h => h) (.inl ⟨by rfl, fun W1 h1 => by go_simp⟩) hW ?_
              try simp only [Act.put, List.setIfInBounds_toArray, List.set_cons_zero, List.set_cons_succ]
              refine wpAnyH_take (i := 11) (oi := ⟨some 48, _, _, _, _, _⟩) (v := .pointer (some ⟨wr.heap.size + 1, 2, none⟩)) rfl (by kernel_rfl) (by kernel_rfl) (by kernel_rfl) (fun _ _ _ h => h) (.inl ⟨by rfl, fun W1 h1 => by go_simp⟩) hW ?_
              try simp only [Act.put, List.setIfInBounds_toArray, List.set_cons_zero, List.set_cons_succ]
              refine wpAnyH_take (i := 12) (oi := ⟨some 49, _, _, _, _, _⟩) (v := .slice p.A3 p.n3 p.c3) rfl (by kernel_rfl) (by kernel_rfl) (by kernel_rfl) (fun _ _ _ h => h) (.inl ⟨by rfl, fun W1 h1 => by (have x1 : W1.cell? ⟨wr.heap.size + 1, 2, none⟩ = some (.slice p.A3 p.n3 p.c3) := (by rw [cell_of_row _ _ 2 _ 131 (0, 0) (blk_below G5.out.2.1 h1)]; rfl)); go_simp⟩) hW ?_
              try simp only [Act.put, List.setIfInBounds_toArray, List.set_cons_zero, List.set_cons_succ]
              refine wpAnyH_take (i := 13) (oi := ⟨some 50, _, _, _, _, _⟩) (v := .int .i64 (p.n3 : Int)) rfl (by kernel_rfl) (by kernel_rfl) (by kernel_rfl) (fun _ _ _ h => h) (.inl ⟨by rfl, fun W1 h1 => by go_simp⟩) hW ?_
              try simp only [Act.put, List.setIfInBounds_toArray, List.set_cons_zero, List.set_cons_succ]
              refine wpAnyH_take (i := 14) (oi := ⟨some 51, _, _, _, _, _⟩) (v := .bool false) rfl (by kernel_rfl) (by kernel_rfl) (by kernel_rfl) (fun _ _ _ h => h) (.inl ⟨by rfl, fun W1 h1 => by go_simp⟩) hW ?_
              try simp only [Act.put, List.setIfInBounds_toArray, List.set_cons_zero, List.set_cons_succ]
              refine wpAnyH_take (i := 15) (oi := ⟨some 52, _, _, _, _, _⟩) (v := .bool false) rfl (by kernel_rfl) (by kernel_rfl) (by kernel_rfl) (fun _ _ _ h => h) (.inl ⟨by rfl, fun W1 h1 => by go_simp⟩) hW ?_
              try simp only [Act.put, List.setIfInBounds_toArray, List.set_cons_zero, List.set_cons_succ]
              refine wpAnyH_take (i := 16) (oi := ⟨some 53, _, _, _, _, _⟩) (v := .bool false) rfl (by kernel_rfl) (by kernel_rfl) (by kernel_rfl) (fun _ _ _ h => h) (.inl ⟨by rfl, fun W1 h1 => by go_simp⟩) hW ?_
              try simp only [Act.put, List.setIfInBounds_toArray, List.set_cons_zero, List.set_cons_succ]
              refine wpAnyH_take (i := 17) (oi := ⟨some 54, _, _, _, _, _⟩) (v := .int .i64 (((m + 1 : Nat) : Int) : Int)) rfl (by kernel_rfl) (by kernel_rfl) (by kernel_rfl) (fun _ _ _ h => h) (.inl ⟨by rfl, fun W1 h1 => by go_simp⟩) hW ?_
              try simp only [Act.put, List.setIfInBounds_toArray, List.set_cons_zero, List.set_cons_succ]
              refine wpAnyH_take (i := 18) (oi := ⟨some 55, _, _, _, _, _⟩) (v := .bool true) rfl (by kernel_rfl) (by kernel_rfl) (by kernel_rfl) (fun _ _ _ h => h) (.inl ⟨by rfl, fun W1 h1 => by go_simp⟩) hW ?_
              try simp only [Act.put, List.setIfInBounds_toArray, List.set_cons_zero, List.set_cons_succ]
              refine wpAnyH_take (i := 19) (oi := ⟨some 56, _, _, _, _, _⟩) (v := .bool true) rfl (by kernel_rfl) (by kernel_rfl) (by kernel_rfl) (fun _ _ _ h => h) (.inl ⟨by rfl, fun W1 h1 => by go_simp⟩) hW ?_
              try simp only [Act.put, List.setIfInBounds_toArray, List.set_cons_zero, List.set_cons_succ]
              refine wpAnyH_take (i := 20) (oi := ⟨some 57, _, _, _, _, _⟩) (v := .pointer (some ⟨w.heap.size, 2, none⟩)) rfl (by kernel_rfl) (by kernel_rfl) (by kernel_rfl) (fun _ _ _ h => h) (.inl ⟨by rfl, fun W1 h1 => by go_simp⟩) hW ?_
              try simp only [Act.put, List.setIfInBounds_toArray, List.set_cons_zero, List.set_cons_succ]
              refine wpAnyH_take (i := 21) (oi := ⟨some 58, _, _, _, _, _⟩) (v := .slice (some ⟨b, off, none⟩) n c) rfl (by kernel_rfl) (by kernel_rfl) (by kernel_rfl) (fun _ _ _ h => h) (.inl ⟨by rfl, fun W1 h1 => by (have x1 : W1.cell? ⟨w.heap.size, 2, none⟩ = some (.slice (some ⟨b, off, none⟩) n c) := (by rw [cell_of_row _ _ 2 _ 79 (0, 0) (blk_below G5.out.1 h1)]; rfl)); go_simp⟩) hW ?_
              try simp only [Act.put, List.setIfInBounds_toArray, List.set_cons_zero, List.set_cons_succ]
              refine wpAnyH_take (i := 22) (oi := ⟨some 59, _, _, _, _, _⟩) (v := .int .i64 (((m + 1 : Nat) : Int) : Int)) rfl (by kernel_rfl) (by kernel_rfl) (by kernel_rfl) (fun _ _ _ h => h) (.inl ⟨by rfl, fun W1 h1 => by go_simp⟩) hW ?_
              try simp only [Act.put, List.setIfInBounds_toArray, List.set_cons_zero, List.set_cons_succ]
              refine wpAnyH_take (i := 23) (oi := ⟨some 60, _, _, _, _, _⟩) (v := .int .i64 (m : Int)) rfl (by kernel_rfl) (by kernel_rfl) (by kernel_rfl) (fun _ _ _ h => h) (.inl ⟨by rfl, fun W1 h1 => by go_simp⟩) hW ?_
              try simp only [Act.put, List.setIfInBounds_toArray, List.set_cons_zero, List.set_cons_succ]
              refine wpAnyH_take (i := 24) (oi := ⟨some 61, _, _, _, _, _⟩) (v := .pointer (some ⟨b, off + m * 4, none⟩)) rfl (by kernel_rfl) (by kernel_rfl) (by kernel_rfl) (fun _ _ _ h => h) (.inl ⟨by rfl, fun W1 h1 => by go_simp⟩) hW ?_
              try simp only [Act.put, List.setIfInBounds_toArray, List.set_cons_zero, List.set_cons_succ]
              refine wpAnyH_take (i := 25) (oi := ⟨some 62, _, _, _, _, _⟩) (v := .pointer (some ⟨b, off + m * 4, none⟩)) rfl (by kernel_rfl) (by kernel_rfl) (by kernel_rfl) (fun _ _ _ h => h) (.inl ⟨by rfl, fun W1 h1 => by go_simp⟩) hW ?_
              try simp only [Act.put, List.setIfInBounds_toArray, List.set_cons_zero, List.set_cons_succ]
              refine wpAnyH_take (i := 26) (oi := ⟨some 63, _, _, _, _, _⟩) (v := .pointer (some ⟨b, off + m * 4, none⟩)) rfl (by kernel_rfl) (by kernel_rfl) (by kernel_rfl) (fun _ _ _ h => h) (.inl ⟨by rfl, fun W1 h1 => by go_simp⟩) hW ?_
              try simp only [Act.put, List.setIfInBounds_toArray, List.set_cons_zero, List.set_cons_succ]
              refine wpAnyH_take (i := 27) (oi := ⟨some 64, _, _, _, _, _⟩) (v := .slice q.A1 q.n1 q.c1) rfl (by kernel_rfl) (by kernel_rfl) (by kernel_rfl) (fun _ _ _ h => h) (.inl ⟨by rfl, fun W1 h1 => by (have x1 : W1.cell? ⟨b, off + m * 4, none⟩ = some (.slice q.A1 q.n1 q.c1) := (rangeAt_below HXQ.out (below_then HBb.out HBb.out.size h1) hb) 0 _ rfl); go_simp⟩) hW ?_
              try simp only [Act.put, List.setIfInBounds_toArray, List.set_cons_zero, List.set_cons_succ]
              refine wpAnyH_take (i := 28) (oi := ⟨some 65, _, _, _, _, _⟩) (v := .string z.key) rfl (by kernel_rfl) (by kernel_rfl) (by kernel_rfl) (fun _ _ _ h => h) (.inl ⟨by rfl, fun W1 h1 => by (have x1 := Kd.C_string (c := q.c1) (P := Try.prog) Try.underlying31 Try.underlying5 Try.underlying9 (Kd.C_below HCQ.out.k (below_then HBb.out HBb.out.size h1))); rw [str_bytes] at x1; go_simp⟩) hW ?_
              try simp only [Act.put, List.setIfInBounds_toArray, List.set_cons_zero, List.set_cons_succ]
              refine wpAnyH_take (i := 29) (oi := ⟨some 66, _, _, _, _, _⟩) (v := .pointer (some ⟨wr.heap.size + 1, 0, none⟩)) rfl (by kernel_rfl) (by kernel_rfl) (by kernel_rfl) (fun _ _ _ h => h) (.inl ⟨by rfl, fun W1 h1 => by go_simp⟩) hW ?_
              try simp only [Act.put, List.setIfInBounds_toArray, List.set_cons_zero, List.set_cons_succ]
              refine wpAnyH_take (i := 30) (oi := ⟨some 67, _, _, _, _, _⟩) (v := .slice p.A1 p.n1 p.c1) rfl (by kernel_rfl) (by kernel_rfl) (by kernel_rfl) (fun _ _ _ h => h) (.inl ⟨by rfl, fun W1 h1 => by (have x1 : W1.cell? ⟨wr.heap.size + 1, 0, none⟩ = some (.slice p.A1 p.n1 p.c1) := (by rw [cell_of_row _ _ 0 _ 131 (0, 0) (blk_below G5.out.2.1 h1)]; rfl)); go_simp⟩) hW ?_
              try simp only [Act.put, List.setIfInBounds_toArray, List.set_cons_zero, List.set_cons_succ]
              refine wpAnyH_take (i := 31) (oi := ⟨some 68, _, _, _, _, _⟩) (v := .string y.key) rfl (by kernel_rfl) (by kernel_rfl) (by kernel_rfl) (fun _ _ _ h => h) (.inl ⟨by rfl, fun W1 h1 => by (have x1 := Kd.C_string (c := p.c1) (P := Try.prog) Try.underlying31 Try.underlying5 Try.underlying9 (Kd.C_below HCA.out.k (below_then HBb.out HBb.out.size h1))); rw [str_bytes] at x1; go_simp⟩) hW ?_
              try simp only [Act.put, List.setIfInBounds_toArray, List.set_cons_zero, List.set_cons_succ]
              refine wpAnyH_take (i := 32) (oi := ⟨some 69, _, _, _, _, _⟩) (v := .bool true) rfl (by kernel_rfl) (by kernel_rfl) (by kernel_rfl) (fun _ _ _ h => h) (.inl ⟨by rfl, fun W1 h1 => by (have x1 := hgq W1; go_simp)⟩) hW ?_
              try simp only [Act.put, List.setIfInBounds_toArray, List.set_cons_zero, List.set_cons_succ]
              refine wpAnyH_take (i := 33) (oi := ⟨some 70, _, _, _, _, _⟩) (v := .bool true) rfl (by kernel_rfl) (by kernel_rfl) (by kernel_rfl) (fun _ _ _ h => h) (.inl ⟨by rfl, fun W1 h1 => by go_simp⟩) hW ?_
              try simp only [Act.put, List.setIfInBounds_toArray, List.set_cons_zero, List.set_cons_succ]
              refine wpAnyH_take (i := 34) (oi := ⟨some 71, _, _, _, _, _⟩) (v := .bool true) rfl (by kernel_rfl) (by kernel_rfl) (by kernel_rfl) (fun _ _ _ h => h) (.inl ⟨by rfl, fun W1 h1 => by go_simp⟩) hW ?_
              try simp only [Act.put, List.setIfInBounds_toArray, List.set_cons_zero, List.set_cons_succ]
              refine wpAnyH_done (by kernel_rfl) ?_ _
              have HF := Aside0.mk (rightB_false (x := ⟨emp, snap, l⟩) (fun h => by have := (h.all _ _ HYL.out).up z.key (by simp [HZL.out]); unfold geB at this; rw [hge] at this; cases this))
              have HWF := Aside0.mk (below_then HBb.out HBb.out.size hS0)
              clear hS0 hW
              go_wp2
              rw [HP.out, HF.out]
              exact ⟨rfl, HWF.out⟩
            | true =>
              have hgq : ∀ W : World, (binOp .geq 9 (.string z.key) (.string y.key)).run Try.prog W = .ok (.bool false) W := fun W => by simp [binOp, Op.stringOp, hge]
              refine wp_region_held_drew (S := fun w' => Below Wb.heap.size Wb w') (by kernel_rfl) hS0 (fun hW => ?_)
              refine wpAnyH_take (i := 0) (oi := ⟨some 37, _, _, _, _, _⟩) (v := .pointer (some ⟨wr.heap.size + 1, 0, none⟩)) rfl (by kernel_rfl) (by kernel_rfl) (by kernel_rfl) (fun _ _ _ h => h) (.inl ⟨by rfl, fun W1 h1 => by go_simp⟩) hW ?_
              try simp only [Act.put, List.setIfInBounds_toArray, List.set_cons_zero, List.set_cons_succ]
              refine wpAnyH_take (i := 1) (oi := ⟨some 38, _, _, _, _, _⟩) (v := .slice p.A1 p.n1 p.c1) rfl (by kernel_rfl) (by kernel_rfl) (by kernel_rfl) (fun _ _ _ h => h) (.inl ⟨by rfl, fun W1 h1 => by (have x1 : W1.cell? ⟨wr.heap.size + 1, 0, none⟩ = some (.slice p.A1 p.n1 p.c1) := (by rw [cell_of_row _ _ 0 _ 131 (0, 0) (blk_below G5.out.2.1 h1)]; rfl)); go_simp⟩) hW ?_
              try simp only [Act.put, List.setIfInBounds_toArray, List.set_cons_zero, List.set_cons_succ]
              refine wpAnyH_take (i := 2) (oi := ⟨some 39, _, _, _, _, _⟩) (v := .int .i64 (p.n1 : Int)) rfl (by kernel_rfl) (by kernel_rfl) (by kernel_rfl) (fun _ _ _ h => h) (.inl ⟨by rfl, fun W1 h1 => by go_simp⟩) hW ?_
              try simp only [Act.put, List.setIfInBounds_toArray, List.set_cons_zero, List.set_cons_succ]
              refine wpAnyH_take (i := 3) (oi := ⟨some 40, _, _, _, _, _⟩) (v := .bool false) rfl (by kernel_rfl) (by kernel_rfl) (by kernel_rfl) (fun _ _ _ h => h) (.inl ⟨by rfl, fun W1 h1 => by go_simp⟩) hW ?_
              try simp only [Act.put, List.setIfInBounds_toArray, List.set_cons_zero, List.set_cons_succ]
              refine wpAnyH_take (i := 4) (oi := ⟨some 41, _, _, _, _, _⟩) (v := .bool false) rfl (by kernel_rfl) (by kernel_rfl) (by kernel_rfl) (fun _ _ _ h => h) (.inl ⟨by rfl, fun W1 h1 => by go_simp⟩) hW ?_
              try simp only [Act.put, List.setIfInBounds_toArray, List.set_cons_zero, List.set_cons_succ]
              refine wpAnyH_take (i := 5) (oi := ⟨some 42, _, _, _, _, _⟩) (v := .pointer (some ⟨wr.heap.size + 1, 1, none⟩)) rfl (by kernel_rfl) (by kernel_rfl) (by kernel_rfl) (fun _ _ _ h => h) (.inl ⟨by rfl, fun W1 h1 => by go_simp⟩) hW ?_
              try simp only [Act.put, List.setIfInBounds_toArray, List.set_cons_zero, List.set_cons_succ]
              refine wpAnyH_take (i := 6) (oi := ⟨some 43, _, _, _, _, _⟩) (v := .slice p.A2 p.n2 p.c2) rfl (by kernel_rfl) (by kernel_rfl) (by kernel_rfl) (fun _ _ _ h => h) (.inl ⟨by rfl, fun W1 h1 => by (have x1 : W1.cell? ⟨wr.heap.size + 1, 1, none⟩ = some (.slice p.A2 p.n2 p.c2) := (by rw [cell_of_row _ _ 1 _ 131 (0, 0) (blk_below G5.out.2.1 h1)]; rfl)); go_simp⟩) hW ?_
              try simp only [Act.put, List.setIfInBounds_toArray, List.set_cons_zero, List.set_cons_succ]
              refine wpAnyH_take (i := 7) (oi := ⟨some 44, _, _, _, _, _⟩) (v := .int .i64 (p.n2 : Int)) rfl (by kernel_rfl) (by kernel_rfl) (by kernel_rfl) (fun _ _ _ h => h) (.inl ⟨by rfl, fun W1 h1 => by go_simp⟩) hW ?_
              try simp only [Act.put, List.setIfInBounds_toArray, List.set_cons_zero, List.set_cons_succ]
              refine wpAnyH_take (i := 8) (oi := ⟨some 45, _, _, _, _, _⟩) (v := .bool false) rfl (by kernel_rfl) (by kernel_rfl) (by kernel_rfl) (fun _ _ _ h => h) (.inl ⟨by rfl, fun W1 h1 => by go_simp⟩) hW ?_
              try simp only [Act.put, List.setIfInBounds_toArray, List.set_cons_zero, List.set_cons_succ]
              refine wpAnyH_take (i := 9) (oi := ⟨some 46, _, _, _, _, _⟩) (v := .bool false) rfl (by kernel_rfl) (by kernel_rfl) (by kernel_rfl) (fun _ _ _ h => h) (.inl ⟨by rfl, fun W1 h1 => by go_simp⟩) hW ?_
              try simp only [Act.put, List.setIfInBounds_toArray, List.set_cons_zero, List.set_cons_succ]
              refine wpAnyH_take (i := 10) (oi := ⟨some 47, _, _, _, _, _⟩) (v := .bool false) rfl (by kernel_rfl) (by kernel_rfl) (by kernel_rfl) (fun _ _ _ h => h) (.inl ⟨by rfl, fun W1 h1 => by go_simp⟩) hW ?_
              try simp only [Act.put, List.setIfInBounds_toArray, List.set_cons_zero, List.set_cons_succ]
              refine wpAnyH_take (i := 11) (oi := ⟨some 48, _, _, _, _, _⟩) (v := .pointer (some ⟨wr.heap.size + 1, 2, none⟩)) rfl (by kernel_rfl) (by kernel_rfl) (by kernel_rfl) (fun _ _ _ h => h) (.inl ⟨by rfl, fun W1 h1 => by go_simp⟩) hW ?_
              try simp only [Act.put, List.setIfInBounds_toArray, List.set_cons_zero, List.set_cons_succ]
              refine wpAnyH_take (i := 12) (oi := ⟨some 49, _, _, _, _, _⟩) (v := .slice p.A3 p.n3 p.c3) rfl (by kernel_rfl) (by kernel_rfl) (by kernel_rfl) (fun _ _ _ h => h) (.inl ⟨by rfl, fun W1 h1 => by (have x1 : W1.cell? ⟨wr.heap.size + 1, 2, none⟩ = some (.slice p.A3 p.n3 p.c3) := (by rw [cell_of_row _ _ 2 _ 131 (0, 0) (blk_below G5.out.2.1 h1)]; rfl)); go_simp⟩) hW ?_
              try simp only [Act.put, List.setIfInBounds_toArray, List.set_cons_zero, List.set_cons_succ]
              refine wpAnyH_take (i := 13) (oi := ⟨some 50, _, _, _, _, _⟩) (v := .int .i64 (p.n3 : Int)) rfl (by kernel_rfl) (by kernel_rfl) (by kernel_rfl) (fun _ _ _ h => h) (.inl ⟨by rfl, fun W1 h1 => by go_simp⟩) hW ?_
              try simp only [Act.put, List.setIfInBounds_toArray, List.set_cons_zero, List.set_cons_succ]
              refine wpAnyH_take (i := 14) (oi := ⟨some 51, _, _, _, _, _⟩) (v := .bool false) rfl (by kernel_rfl) (by kernel_rfl) (by kernel_rfl) (fun _ _ _ h => h) (.inl ⟨by rfl, fun W1 h1 => by go_simp⟩) hW ?_
              try simp only [Act.put, List.setIfInBounds_toArray, List.set_cons_zero, List.set_cons_succ]
              refine wpAnyH_take (i := 15) (oi := ⟨some 52, _, _, _, _, _⟩) (v := .bool false) rfl (by kernel_rfl) (by kernel_rfl) (by kernel_rfl) (fun _ _ _ h => h) (.inl ⟨by rfl, fun W1 h1 => by go_simp⟩) hW ?_
              try simp only [Act.put, List.setIfInBounds_toArray, List.set_cons_zero, List.set_cons_succ]
              refine wpAnyH_take (i := 16) (oi := ⟨some 53, _, _, _, _, _⟩) (v := .bool false) rfl (by kernel_rfl) (by kernel_rfl) (by kernel_rfl) (fun _ _ _ h => h) (.inl ⟨by rfl, fun W1 h1 => by go_simp⟩) hW ?_
              try simp only [Act.put, List.setIfInBounds_toArray, List.set_cons_zero, List.set_cons_succ]
              refine wpAnyH_take (i := 17) (oi := ⟨some 54, _, _, _, _, _⟩) (v := .int .i64 (((m + 1 : Nat) : Int) : Int)) rfl (by kernel_rfl) (by kernel_rfl) (by kernel_rfl) (fun _ _ _ h => h) (.inl ⟨by rfl, fun W1 h1 => by go_simp⟩) hW ?_
              try simp only [Act.put, List.setIfInBounds_toArray, List.set_cons_zero, List.set_cons_succ]
              refine wpAnyH_take (i := 18) (oi := ⟨some 55, _, _, _, _, _⟩) (v := .bool true) rfl (by kernel_rfl) (by kernel_rfl) (by kernel_rfl) (fun _ _ _ h => h) (.inl ⟨by rfl, fun W1 h1 => by go_simp⟩) hW ?_
              try simp only [Act.put, List.setIfInBounds_toArray, List.set_cons_zero, List.set_cons_succ]
              refine wpAnyH_take (i := 19) (oi := ⟨some 56, _, _, _, _, _⟩) (v := .bool true) rfl (by kernel_rfl) (by kernel_rfl) (by kernel_rfl) (fun _ _ _ h => h) (.inl ⟨by rfl, fun W1 h1 => by go_simp⟩) hW ?_
              try simp only [Act.put, List.setIfInBounds_toArray, List.set_cons_zero, List.set_cons_succ]
              refine wpAnyH_take (i := 20) (oi := ⟨some 57, _, _, _, _, _⟩) (v := .pointer (some ⟨w.heap.size, 2, none⟩)) rfl (by kernel_rfl) (by kernel_rfl) (by kernel_rfl) (fun _ _ _ h => h) (.inl ⟨by rfl, fun W1 h1 => by go_simp⟩) hW ?_
              try simp only [Act.put, List.setIfInBounds_toArray, List.set_cons_zero, List.set_cons_succ]
              refine wpAnyH_take (i := 21) (oi := ⟨some 58, _, _, _, _, _⟩) (v := .slice (some ⟨b, off, none⟩) n c) rfl (by kernel_rfl) (by kernel_rfl) (by kernel_rfl) (fun _ _ _ h => h) (.inl ⟨by rfl, fun W1 h1 => by (have x1 : W1.cell? ⟨w.heap.size, 2, none⟩ = some (.slice (some ⟨b, off, none⟩) n c) := (by rw [cell_of_row _ _ 2 _ 79 (0, 0) (blk_below G5.out.1 h1)]; rfl)); go_simp⟩) hW ?_
              try simp only [Act.put, List.setIfInBounds_toArray, List.set_cons_zero, List.set_cons_succ]
              refine wpAnyH_take (i := 22) (oi := ⟨some 59, _, _, _, _, _⟩) (v := .int .i64 (((m + 1 : Nat) : Int) : Int)) rfl (by kernel_rfl) (by kernel_rfl) (by kernel_rfl) (fun _ _ _ h => h) (.inl ⟨by rfl, fun W1 h1 => by go_simp⟩) hW ?_
              try simp only [Act.put, List.setIfInBounds_toArray, List.set_cons_zero, List.set_cons_succ]
              refine wpAnyH_take (i := 23) (oi := ⟨some 60, _, _, _, _, _⟩) (v := .int .i64 (m : Int)) rfl (by kernel_rfl) (by kernel_rfl) (by kernel_rfl) (fun _ _ _ h => h) (.inl ⟨by rfl, fun W1 h1 => by go_simp⟩) hW ?_
              try simp only [Act.put, List.setIfInBounds_toArray, List.set_cons_zero, List.set_cons_succ]
              refine wpAnyH_take (i := 24) (oi := ⟨some 61, _, _, _, _, _⟩) (v := .pointer (some ⟨b, off + m * 4, none⟩)) rfl (by kernel_rfl) (by kernel_rfl) (by kernel_rfl) (fun _ _ _ h => h) (.inl ⟨by rfl, fun W1 h1 => by go_simp⟩) hW ?_
              try simp only [Act.put, List.setIfInBounds_toArray, List.set_cons_zero, List.set_cons_succ]
              refine wpAnyH_take (i := 25) (oi := ⟨some 62, _, _, _, _, _⟩) (v := .pointer (some ⟨b, off + m * 4, none⟩)) rfl (by kernel_rfl) (by kernel_rfl) (by kernel_rfl) (fun _ _ _ h => h) (.inl ⟨by rfl, fun W1 h1 => by go_simp⟩) hW ?_
              try simp only [Act.put, List.setIfInBounds_toArray, List.set_cons_zero, List.set_cons_succ]
              refine wpAnyH_take (i := 26) (oi := ⟨some 63, _, _, _, _, _⟩) (v := .pointer (some ⟨b, off + m * 4, none⟩)) rfl (by kernel_rfl) (by kernel_rfl) (by kernel_rfl) (fun _ _ _ h => h) (.inl ⟨by rfl, fun W1 h1 => by go_simp⟩) hW ?_
              try simp only [Act.put, List.setIfInBounds_toArray, List.set_cons_zero, List.set_cons_succ]
              refine wpAnyH_take (i := 27) (oi := ⟨some 64, _, _, _, _, _⟩) (v := .slice q.A1 q.n1 q.c1) rfl (by kernel_rfl) (by kernel_rfl) (by kernel_rfl) (fun _ _ _ h => h) (.inl ⟨by rfl, fun W1 h1 => by (have x1 : W1.cell? ⟨b, off + m * 4, none⟩ = some (.slice q.A1 q.n1 q.c1) := (rangeAt_below HXQ.out (below_then HBb.out HBb.out.size h1) hb) 0 _ rfl); go_simp⟩) hW ?_
              try simp only [Act.put, List.setIfInBounds_toArray, List.set_cons_zero, List.set_cons_succ]
              refine wpAnyH_take (i := 28) (oi := ⟨some 65, _, _, _, _, _⟩) (v := .string z.key) rfl (by kernel_rfl) (by kernel_rfl) (by kernel_rfl) (fun _ _ _ h => h) (.inl ⟨by rfl, fun W1 h1 => by (have x1 := Kd.C_string (c := q.c1) (P := Try.prog) Try.underlying31 Try.underlying5 Try.underlying9 (Kd.C_below HCQ.out.k (below_then HBb.out HBb.out.size h1))); rw [str_bytes] at x1; go_simp⟩) hW ?_
              try simp only [Act.put, List.setIfInBounds_toArray, List.set_cons_zero, List.set_cons_succ]
              refine wpAnyH_take (i := 29) (oi := ⟨some 66, _, _, _, _, _⟩) (v := .pointer (some ⟨wr.heap.size + 1, 0, none⟩)) rfl (by kernel_rfl) (by kernel_rfl) (by kernel_rfl) (fun _ _ _ h => h) (.inl ⟨by rfl, fun W1 h1 => by go_simp⟩) hW ?_
              try simp only [Act.put, List.setIfInBounds_toArray, List.set_cons_zero, List.set_cons_succ]
              refine wpAnyH_take (i := 30) (oi := ⟨some 67, _, _, _, _, _⟩) (v := .slice p.A1 p.n1 p.c1) rfl (by kernel_rfl) (by kernel_rfl) (by kernel_rfl) (fun _ _ _ h => h) (.inl ⟨by rfl, fun W1 h1 => by (have x1 : W1.cell? ⟨wr.heap.size + 1, 0, none⟩ = some (.slice p.A1 p.n1 p.c1) := (by rw [cell_of_row _ _ 0 _ 131 (0, 0) (blk_below G5.out.2.1 h1)]; rfl)); go_simp⟩) hW ?_
              try simp only [Act.put, List.setIfInBounds_toArray, List.set_cons_zero, List.set_cons_succ]
              refine wpAnyH_take (i := 31) (oi := ⟨some 68, _, _, _, _, _⟩) (v := .string y.key) rfl (by kernel_rfl) (by kernel_rfl) (by kernel_rfl) (fun _ _ _ h => h) (.inl ⟨by rfl, fun W1 h1 => by (have x1 := Kd.C_string (c := p.c1) (P := Try.prog) Try.underlying31 Try.underlying5 Try.underlying9 (Kd.C_below HCA.out.k (below_then HBb.out HBb.out.size h1))); rw [str_bytes] at x1; go_simp⟩) hW ?_
              try simp only [Act.put, List.setIfInBounds_toArray, List.set_cons_zero, List.set_cons_succ]
              refine wpAnyH_take (i := 32) (oi := ⟨some 69, _, _, _, _, _⟩) (v := .bool false) rfl (by kernel_rfl) (by kernel_rfl) (by kernel_rfl) (fun _ _ _ h => h) (.inl ⟨by rfl, fun W1 h1 => by (have x1 := hgq W1; go_simp)⟩) hW ?_
              try simp only [Act.put, List.setIfInBounds_toArray, List.set_cons_zero, List.set_cons_succ]
              refine wpAnyH_take (i := 33) (oi := ⟨some 70, _, _, _, _, _⟩) (v := .bool false) rfl (by kernel_rfl) (by kernel_rfl) (by kernel_rfl) (fun _ _ _ h => h) (.inl ⟨by rfl, fun W1 h1 => by go_simp⟩) hW ?_
              try simp only [Act.put, List.setIfInBounds_toArray, List.set_cons_zero, List.set_cons_succ]
              refine wpAnyH_take (i := 34) (oi := ⟨some 71, _, _, _, _, _⟩) (v := .bool false) rfl (by kernel_rfl) (by kernel_rfl) (by kernel_rfl) (fun _ _ _ h => h) (.inl ⟨by rfl, fun W1 h1 => by go_simp⟩) hW ?_
              try simp only [Act.put, List.setIfInBounds_toArray, List.set_cons_zero, List.set_cons_succ]
              refine wpAnyH_done (by kernel_rfl) ?_ _
              have y4 : Wb.drew.cell? ⟨wr.heap.size, 3, none⟩ = some (.bool p.g) := by rw [cell_of_row _ _ 3 _ 133 (0, 0) (blk_below G5.out.2.2 hS0)]; rfl
              have y1 : Wb.drew.cell? ⟨w.heap.size, 0, none⟩ = some (.string emp) := by rw [cell_of_row _ _ 0 _ 79 (0, 0) (blk_below G5.out.1 hS0)]; rfl
              have y5 : Wb.drew.cell? ⟨wr.heap.size + 1, 1, none⟩ = some (.slice p.A2 p.n2 p.c2) := by rw [cell_of_row _ _ 1 _ 131 (0, 0) (blk_below G5.out.2.1 hS0)]; rfl
              have y6 : Wb.drew.cell? ⟨wr.heap.size + 1, 2, none⟩ = some (.slice p.A3 p.n3 p.c3) := by rw [cell_of_row _ _ 2 _ 131 (0, 0) (blk_below G5.out.2.1 hS0)]; rfl
              have HWF := Aside0.mk (below_then HBb.out HBb.out.size hS0)
              have HW0F := Aside0.mk (below_then HB0b.out HB0b.out.size hS0)
              clear hS0 hW
              generalize hpg : p.g = pg at *
              cases pg with
              | false =>
                have HO := Aside0.mk (upTo_succ (x := ⟨emp, snap, l⟩) HU.out HYL.out ⟨by have := HL.out.1; omega, by have := HL.out.2.1; omega, by have := HL.out.2.2; omega, fun k hk => by (simp [HZL.out] at hk; subst hk; unfold geB; rw [hge]; rfl), fun h => by rw [← HPG.out] at h; cases h⟩)
                go_wp2
                go_roundw
                case rel => exact ⟨(m + 1) + 1, by go_num, by omega, HO, HW0F⟩
                case measure => simp [intOf]; omega
              | true =>
                have HF := Aside0.mk (rightB_false (x := ⟨emp, snap, l⟩) (fun h => by have := ((h.all _ _ HYL.out).gone HPG.out.symm).1; exact this rfl))
                go_wp2
                rw [HP.out, HF.out]
                exact ⟨rfl, HWF.out⟩
        · have hjn : j = n := by omega
          have HF := Aside0.mk (rightB_true (x := ⟨emp, snap, l⟩) ⟨HSN.out, hbs, by show l.length ≤ 65536; have := H.out.len; omega, fun i c hc => HU.out i c (by have h1 := H.out.len; have h2 : i < l.length := (List.getElem?_eq_some_iff.1 hc).1; omega) hc⟩)
          clear hjn
          go_wp2
          rw [HP.out, HF.out]
          exact ⟨rfl, HB.out⟩
    · obtain ⟨e1, e2⟩ := toList_ne (s := base) (by omega)
      go_wp2_with fail
      refine (named_calls base _).mono ?_
      rintro e w1 ⟨rfl, rfl⟩
      cases hbn : namedB base with
      | false =>
        have HF := Aside0.mk (rightB_false (x := ⟨base, snap, l⟩) (fun h => by have := h.base; simp only at this; unfold namedB at hbn; have := of_decide_eq_false hbn; omega))
        go_wp2
        rw [HP.out, HF.out]
        exact ⟨rfl, B0.out⟩
      | true =>
        go_wp2
        have hbs : base.size ≤ 63 := by (unfold namedB at hbn; have := of_decide_eq_true hbn; omega)
        generalize hW0 : w.alloc (.cells #[.string base, .string snap, .slice A n c] 79) = W0 at *
        have hs0 : W0.heap.size = w.heap.size + 1 := by rw [← hW0]; simp
        clear hW0
        go_loopw [30] (fun v30 wr => ∃ (j : Nat), v30 = .int .i64 (j : Int) ∧ j ≤ n ∧ Aside0 (UpTo ⟨base, snap, l⟩ j) ∧ Aside0 (Below W0.heap.size W0 wr)) (fun v _ => n - (intOf v).toNat)
        case atStart => exact ⟨0, rfl, Nat.zero_le _, ⟨fun i c h => absurd h (Nat.not_lt_zero _)⟩, ⟨Below.refl _ _⟩⟩
        case round =>
          obtain ⟨j, rfl, hj, HU, HB'⟩ := hrel
          have HB := Aside0.mk (below_then B0.out B0.out.size HB'.out)
          have G1 := Aside0.mk (blk_below G0.out HB'.out)
          have hszb := HB'.out.size
          by_cases hlt : j < n
          · obtain ⟨b, off, rfl, hb, hx⟩ := CF_at H.out.row (by omega)
            have hxj := hx j hlt
            have hca := H.out.each j hlt
            obtain ⟨p, hp⟩ : ∃ p, p = xs.getD j default := ⟨_, rfl⟩
            obtain ⟨y, hy⟩ : ∃ y, y = l.getD j default := ⟨_, rfl⟩
            rw [← hp] at hxj hca
            rw [← hy] at hca
            have HX := Aside0.mk (rangeAt_below hxj HB.out hb)
            have HYL := Aside0.mk (show l[j]? = some y by
              have hl := H.out.len
              rw [hy, List.getD_eq_getElem?_getD, List.getElem?_eq_getElem (by omega)]; rfl)
            have HCA := Aside0.mk hca.1
            have HPG := Aside0.mk hca.2
            have l1 : p.n1 = y.key.size := by have := hca.1.k.1; rw [bytesOf_len] at this; exact this.symm
            have l2 : p.n2 = y.inn.size := by have := hca.1.i.1; rw [bytesOf_len] at this; exact this.symm
            have l3 : p.n3 = y.data.size := by have := hca.1.d.1; rw [bytesOf_len] at this; exact this.symm
            have HL := Aside0.mk (And.intro l1 (And.intro l2 l3))
            clear hxj hca hp hy l1 l2 l3
            go_wp2_with (refine load_S rfl (.tmp 33) rfl b (off + j * 4) p rfl HX.out ?_)
            have hbW := below_then (below_alloc (Below.refl wr.heap.size wr) (.cells (encS p) 133)) (by simp) (below_alloc (Below.refl (wr.alloc (.cells (encS p) 133)).heap.size (wr.alloc (.cells (encS p) 133))) (.cells (enc3 p) 131))
            have hg5 : ((wr.alloc (.cells (encS p) 133)).alloc (.cells (enc3 p) 131)).heap[wr.heap.size + 1]? = some (.cells (enc3 p) 131 (0, 0)) := by have := blk_new (wr.alloc (.cells (encS p) 133)) (.cells (enc3 p) 131); simpa using this
            have G5 := Aside0.mk (And.intro (blk_below G1.out hbW) (And.intro hg5 (blk_below (blk_new wr (.cells (encS p) 133)) (below_alloc (Below.refl (wr.alloc (.cells (encS p) 133)).heap.size (wr.alloc (.cells (encS p) 133))) (.cells (enc3 p) 131)))))
            have HBb := Aside0.mk (below_then HB.out HB.out.size hbW)
            have HB0b := Aside0.mk (below_then HB'.out HB'.out.size hbW)
            clear hbW hg5
            generalize ((wr.alloc (.cells (encS p) 133)).alloc (.cells (enc3 p) 131)) = Wb at *
            have hS0 : Below Wb.heap.size Wb Wb.drew := below_drew (Below.refl _ _)
            by_cases hK : 160 < p.n1
            · have dK : decide ((160 : Int) < (p.n1 : Int)) = true := decide_eq_true (by omega)
              refine wp_region_held_drew (S := fun w' => Below Wb.heap.size Wb w') (by kernel_rfl) hS0 (fun hW => ?_)
              refine wpAnyH_take (i := 0) (oi := ⟨some 37, _, _, _, _, _⟩) (v := .pointer (some ⟨wr.heap.size + 1, 0, none⟩)) rfl (by kernel_rfl) (by kernel_rfl) (by kernel_rfl) (fun _ _ _ h => h) (.inl ⟨by rfl, fun W1 h1 => by go_simp⟩) hW ?_
              try simp only [Act.put, List.setIfInBounds_toArray, List.set_cons_zero, List.set_cons_succ]
              refine wpAnyH_take (i := 1) (oi := ⟨some 38, _, _, _, _, _⟩) (v := .slice p.A1 p.n1 p.c1) rfl (by kernel_rfl) (by kernel_rfl) (by kernel_rfl) (fun _ _ _ h => h) (.inl ⟨by rfl, fun W1 h1 => by (have x1 : W1.cell? ⟨wr.heap.size + 1, 0, none⟩ = some (.slice p.A1 p.n1 p.c1) := (by rw [cell_of_row _ _ 0 _ 131 (0, 0) (blk_below G5.out.2.1 h1)]; rfl)); go_simp⟩) hW ?_
              try simp only [Act.put, List.setIfInBounds_toArray, List.set_cons_zero, List.set_cons_succ]
              refine wpAnyH_take (i := 2) (oi := ⟨some 39, _, _, _, _, _⟩) (v := .int .i64 (p.n1 : Int)) rfl (by kernel_rfl) (by kernel_rfl) (by kernel_rfl) (fun _ _ _ h => h) (.inl ⟨by rfl, fun W1 h1 => by go_simp⟩) hW ?_
              try simp only [Act.put, List.setIfInBounds_toArray, List.set_cons_zero, List.set_cons_succ]
              refine wpAnyH_take (i := 3) (oi := ⟨some 40, _, _, _, _, _⟩) (v := .bool true) rfl (by kernel_rfl) (by kernel_rfl) (by kernel_rfl) (fun _ _ _ h => h) (.inl ⟨by rfl, fun W1 h1 => by go_simp⟩) hW ?_
              try simp only [Act.put, List.setIfInBounds_toArray, List.set_cons_zero, List.set_cons_succ]
              refine wpAnyH_take (i := 4) (oi := ⟨some 41, _, _, _, _, _⟩) (v := .bool true) rfl (by kernel_rfl) (by kernel_rfl) (by kernel_rfl) (fun _ _ _ h => h) (.inl ⟨by rfl, fun W1 h1 => by go_simp⟩) hW ?_
              try simp only [Act.put, List.setIfInBounds_toArray, List.set_cons_zero, List.set_cons_succ]
              refine wpAnyH_take (i := 5) (oi := ⟨some 42, _, _, _, _, _⟩) (v := undef) rfl (by kernel_rfl) (by kernel_rfl) (by kernel_rfl) (fun _ _ _ h => h) (.inr ⟨by rfl, rfl⟩) hW ?_
              try simp only [Act.put, List.setIfInBounds_toArray, List.set_cons_zero, List.set_cons_succ]
              refine wpAnyH_take (i := 6) (oi := ⟨some 43, _, _, _, _, _⟩) (v := undef) rfl (by kernel_rfl) (by kernel_rfl) (by kernel_rfl) (fun _ _ _ h => h) (.inr ⟨by rfl, rfl⟩) hW ?_
              try simp only [Act.put, List.setIfInBounds_toArray, List.set_cons_zero, List.set_cons_succ]
              refine wpAnyH_take (i := 7) (oi := ⟨some 44, _, _, _, _, _⟩) (v := undef) rfl (by kernel_rfl) (by kernel_rfl) (by kernel_rfl) (fun _ _ _ h => h) (.inr ⟨by rfl, rfl⟩) hW ?_
              try simp only [Act.put, List.setIfInBounds_toArray, List.set_cons_zero, List.set_cons_succ]
              refine wpAnyH_take (i := 8) (oi := ⟨some 45, _, _, _, _, _⟩) (v := undef) rfl (by kernel_rfl) (by kernel_rfl) (by kernel_rfl) (fun _ _ _ h => h) (.inr ⟨by rfl, rfl⟩) hW ?_
              try simp only [Act.put, List.setIfInBounds_toArray, List.set_cons_zero, List.set_cons_succ]
              refine wpAnyH_take (i := 9) (oi := ⟨some 46, _, _, _, _, _⟩) (v := .bool true) rfl (by kernel_rfl) (by kernel_rfl) (by kernel_rfl) (fun _ _ _ h => h) (.inl ⟨by rfl, fun W1 h1 => by go_simp⟩) hW ?_
              try simp only [Act.put, List.setIfInBounds_toArray, List.set_cons_zero, List.set_cons_succ]
              refine wpAnyH_take (i := 10) (oi := ⟨some 47, _, _, _, _, _⟩) (v := .bool true) rfl (by kernel_rfl) (by kernel_rfl) (by kernel_rfl) (fun _ _ _ h => h) (.inl ⟨by rfl, fun W1 h1 => by go_simp⟩) hW ?_
              try simp only [Act.put, List.setIfInBounds_toArray, List.set_cons_zero, List.set_cons_succ]
              refine wpAnyH_take (i := 11) (oi := ⟨some 48, _, _, _, _, _⟩) (v := undef) rfl (by kernel_rfl) (by kernel_rfl) (by kernel_rfl) (fun _ _ _ h => h) (.inr ⟨by rfl, rfl⟩) hW ?_
              try simp only [Act.put, List.setIfInBounds_toArray, List.set_cons_zero, List.set_cons_succ]
              refine wpAnyH_take (i := 12) (oi := ⟨some 49, _, _, _, _, _⟩) (v := undef) rfl (by kernel_rfl) (by kernel_rfl) (by kernel_rfl) (fun _ _ _ h => h) (.inr ⟨by rfl, rfl⟩) hW ?_
              try simp only [Act.put, List.setIfInBounds_toArray, List.set_cons_zero, List.set_cons_succ]
              refine wpAnyH_take (i := 13) (oi := ⟨some 50, _, _, _, _, _⟩) (v := undef) rfl (by kernel_rfl) (by kernel_rfl) (by kernel_rfl) (fun _ _ _ h => h) (.inr ⟨by rfl, rfl⟩) hW ?_
              try simp only [Act.put, List.setIfInBounds_toArray, List.set_cons_zero, List.set_cons_succ]
              refine wpAnyH_take (i := 14) (oi := ⟨some 51, _, _, _, _, _⟩) (v := undef) rfl (by kernel_rfl) (by kernel_rfl) (by kernel_rfl) (fun _ _ _ h => h) (.inr ⟨by rfl, rfl⟩) hW ?_
              try simp only [Act.put, List.setIfInBounds_toArray, List.set_cons_zero, List.set_cons_succ]
              refine wpAnyH_take (i := 15) (oi := ⟨some 52, _, _, _, _, _⟩) (v := .bool true) rfl (by kernel_rfl) (by kernel_rfl) (by kernel_rfl) (fun _ _ _ h => h) (.inl ⟨by rfl, fun W1 h1 => by go_simp⟩) hW ?_
              try simp only [Act.put, List.setIfInBounds_toArray, List.set_cons_zero, List.set_cons_succ]
              refine wpAnyH_take (i := 16) (oi := ⟨some 53, _, _, _, _, _⟩) (v := .bool true) rfl (by kernel_rfl) (by kernel_rfl) (by kernel_rfl) (fun _ _ _ h => h) (.inl ⟨by rfl, fun W1 h1 => by go_simp⟩) hW ?_
              try simp only [Act.put, List.setIfInBounds_toArray, List.set_cons_zero, List.set_cons_succ]
              refine wpAnyH_take (i := 17) (oi := ⟨some 54, _, _, _, _, _⟩) (v := undef) rfl (by kernel_rfl) (by kernel_rfl) (by kernel_rfl) (fun _ _ _ h => h) (.inr ⟨by rfl, rfl⟩) hW ?_
              try simp only [Act.put, List.setIfInBounds_toArray, List.set_cons_zero, List.set_cons_succ]
              refine wpAnyH_take (i := 18) (oi := ⟨some 55, _, _, _, _, _⟩) (v := undef) rfl (by kernel_rfl) (by kernel_rfl) (by kernel_rfl) (fun _ _ _ h => h) (.inr ⟨by rfl, rfl⟩) hW ?_
              try simp only [Act.put, List.setIfInBounds_toArray, List.set_cons_zero, List.set_cons_succ]
              refine wpAnyH_take (i := 19) (oi := ⟨some 56, _, _, _, _, _⟩) (v := undef) rfl (by kernel_rfl) (by kernel_rfl) (by kernel_rfl) (fun _ _ _ h => h) (.inr ⟨by rfl, rfl⟩) hW ?_
              try simp only [Act.put, List.setIfInBounds_toArray, List.set_cons_zero, List.set_cons_succ]
              refine wpAnyH_take (i := 20) (oi := ⟨some 57, _, _, _, _, _⟩) (v := undef) rfl (by kernel_rfl) (by kernel_rfl) (by kernel_rfl) (fun _ _ _ h => h) (.inr ⟨by rfl, rfl⟩) hW ?_
              try simp only [Act.put, List.setIfInBounds_toArray, List.set_cons_zero, List.set_cons_succ]
              refine wpAnyH_take (i := 21) (oi := ⟨some 58, _, _, _, _, _⟩) (v := undef) rfl (by kernel_rfl) (by kernel_rfl) (by kernel_rfl) (fun _ _ _ h => h) (.inr ⟨by rfl, rfl⟩) hW ?_
              try simp only [Act.put, List.setIfInBounds_toArray, List.set_cons_zero, List.set_cons_succ]
              refine wpAnyH_take (i := 22) (oi := ⟨some 59, _, _, _, _, _⟩) (v := undef) rfl (by kernel_rfl) (by kernel_rfl) (by kernel_rfl) (fun _ _ _ h => h) (.inr ⟨by rfl, rfl⟩) hW ?_
              try simp only [Act.put, List.setIfInBounds_toArray, List.set_cons_zero, List.set_cons_succ]
              refine wpAnyH_take (i := 23) (oi := ⟨some 60, _, _, _, _, _⟩) (v := undef) rfl (by kernel_rfl) (by kernel_rfl) (by kernel_rfl) (fun _ _ _ h => h) (.inr ⟨by rfl, rfl⟩) hW ?_
              try simp only [Act.put, List.setIfInBounds_toArray, List.set_cons_zero, List.set_cons_succ]
              refine wpAnyH_take (i := 24) (oi := ⟨some 61, _, _, _, _, _⟩) (v := undef) rfl (by kernel_rfl) (by kernel_rfl) (by kernel_rfl) (fun _ _ _ h => h) (.inr ⟨by rfl, rfl⟩) hW ?_
              try simp only [Act.put, List.setIfInBounds_toArray, List.set_cons_zero, List.set_cons_succ]
              refine wpAnyH_take (i := 25) (oi := ⟨some 62, _, _, _, _, _⟩) (v := undef) rfl (by kernel_rfl) (by kernel_rfl) (by kernel_rfl) (fun _ _ _ h => h) (.inr ⟨by rfl, rfl⟩) hW ?_
              try simp only [Act.put, List.setIfInBounds_toArray, List.set_cons_zero, List.set_cons_succ]
              refine wpAnyH_take (i := 26) (oi := ⟨some 63, _, _, _, _, _⟩) (v := undef) rfl (by kernel_rfl) (by kernel_rfl) (by kernel_rfl) (fun _ _ _ h => h) (.inr ⟨by rfl, rfl⟩) hW ?_
              try simp only [Act.put, List.setIfInBounds_toArray, List.set_cons_zero, List.set_cons_succ]
              refine wpAnyH_take (i := 27) (oi := ⟨some 64, _, _, _, _, _⟩) (v := undef) rfl (by kernel_rfl) (by kernel_rfl) (by kernel_rfl) (fun _ _ _ h => h) (.inr ⟨by rfl, rfl⟩) hW ?_
              try simp only [Act.put, List.setIfInBounds_toArray, List.set_cons_zero, List.set_cons_succ]
              refine wpAnyH_take (i := 28) (oi := ⟨some 65, _, _, _, _, _⟩) (v := undef) rfl (by kernel_rfl) (by kernel_rfl) (by kernel_rfl) (fun _ _ _ h => h) (.inr ⟨by rfl, rfl⟩) hW ?_
              try simp only [Act.put, List.setIfInBounds_toArray, List.set_cons_zero, List.set_cons_succ]
              refine wpAnyH_take (i := 29) (oi := ⟨some 66, _, _, _, _, _⟩) (v := undef) rfl (by kernel_rfl) (by kernel_rfl) (by kernel_rfl) (fun _ _ _ h => h) (.inr ⟨by rfl, rfl⟩) hW ?_
              try simp only [Act.put, List.setIfInBounds_toArray, List.set_cons_zero, List.set_cons_succ]
              refine wpAnyH_take (i := 30) (oi := ⟨some 67, _, _, _, _, _⟩) (v := undef) rfl (by kernel_rfl) (by kernel_rfl) (by kernel_rfl) (fun _ _ _ h => h) (.inr ⟨by rfl, rfl⟩) hW ?_
              try simp only [Act.put, List.setIfInBounds_toArray, List.set_cons_zero, List.set_cons_succ]
              refine wpAnyH_take (i := 31) (oi := ⟨some 68, _, _, _, _, _⟩) (v := undef) rfl (by kernel_rfl) (by kernel_rfl) (by kernel_rfl) (fun _ _ _ h => h) (.inr ⟨by rfl, rfl⟩) hW ?_
              try simp only [Act.put, List.setIfInBounds_toArray, List.set_cons_zero, List.set_cons_succ]
              refine wpAnyH_take (i := 32) (oi := ⟨some 69, _, _, _, _, _⟩) (v := undef) rfl (by kernel_rfl) (by kernel_rfl) (by kernel_rfl) (fun _ _ _ h => h) (.inr ⟨by rfl, rfl⟩) hW ?_
              try simp only [Act.put, List.setIfInBounds_toArray, List.set_cons_zero, List.set_cons_succ]
              refine wpAnyH_take (i := 33) (oi := ⟨some 70, _, _, _, _, _⟩) (v := undef) rfl (by kernel_rfl) (by kernel_rfl) (by kernel_rfl) (fun _ _ _ h => h) (.inr ⟨by rfl, rfl⟩) hW ?_
              try simp only [Act.put, List.setIfInBounds_toArray, List.set_cons_zero, List.set_cons_succ]
              refine wpAnyH_take (i := 34) (oi := ⟨some 71, _, _, _, _, _⟩) (v := .bool true) rfl (by kernel_rfl) (by kernel_rfl) (by kernel_rfl) (fun _ _ _ h => h) (.inl ⟨by rfl, fun W1 h1 => by go_simp⟩) hW ?_
              try simp only [Act.put, List.setIfInBounds_toArray, List.set_cons_zero, List.set_cons_succ]
              refine wpAnyH_done (by kernel_rfl) ?_ _
              have HF := Aside0.mk (rightB_false (x := ⟨base, snap, l⟩) (fun h => by have := (h.all _ _ HYL.out).key; have := HL.out.1; omega))
              have HWF := Aside0.mk (below_then HBb.out HBb.out.size hS0)
              clear hS0 hW
              go_wp2
              rw [HP.out, HF.out]
              exact ⟨rfl, HWF.out⟩
            by_cases hI : 400 < p.n2
            · have dK : decide ((160 : Int) < (p.n1 : Int)) = false := decide_eq_false (by omega)
              have dI : decide ((400 : Int) < (p.n2 : Int)) = true := decide_eq_true (by omega)
              refine wp_region_held_drew (S := fun w' => Below Wb.heap.size Wb w') (by kernel_rfl) hS0 (fun hW => ?_)
              refine wpAnyH_take (i := 0) (oi := ⟨some 37, _, _, _, _, _⟩) (v := .pointer (some ⟨wr.heap.size + 1, 0, none⟩)) rfl (by kernel_rfl) (by kernel_rfl) (by kernel_rfl) (fun _ _ _ h => h) (.inl ⟨by rfl, fun W1 h1 => by go_simp⟩) hW ?_
              try simp only [Act.put, List.setIfInBounds_toArray, List.set_cons_zero, List.set_cons_succ]
              refine wpAnyH_take (i := 1) (oi := ⟨some 38, _, _, _, _, _⟩) (v := .slice p.A1 p.n1 p.c1) rfl (by kernel_rfl) (by kernel_rfl) (by kernel_rfl) (fun _ _ _ h => h) (.inl ⟨by rfl, fun W1 h1 => by (have x1 : W1.cell? ⟨wr.heap.size + 1, 0, none⟩ = some (.slice p.A1 p.n1 p.c1) := (by rw [cell_of_row _ _ 0 _ 131 (0, 0) (blk_below G5.out.2.1 h1)]; rfl)); go_simp⟩) hW ?_
              try simp only [Act.put, List.setIfInBounds_toArray, List.set_cons_zero, List.set_cons_succ]
              refine wpAnyH_take (i := 2) (oi := ⟨some 39, _, _, _, _, _⟩) (v := .int .i64 (p.n1 : Int)) rfl (by kernel_rfl) (by kernel_rfl) (by kernel_rfl) (fun _ _ _ h => h) (.inl ⟨by rfl, fun W1 h1 => by go_simp⟩) hW ?_
              try simp only [Act.put, List.setIfInBounds_toArray, List.set_cons_zero, List.set_cons_succ]
              refine wpAnyH_take (i := 3) (oi := ⟨some 40, _, _, _, _, _⟩) (v := .bool false) rfl (by kernel_rfl) (by kernel_rfl) (by kernel_rfl) (fun _ _ _ h => h) (.inl ⟨by rfl, fun W1 h1 => by go_simp⟩) hW ?_
              try simp only [Act.put, List.setIfInBounds_toArray, List.set_cons_zero, List.set_cons_succ]
              refine wpAnyH_take (i := 4) (oi := ⟨some 41, _, _, _, _, _⟩) (v := .bool false) rfl (by kernel_rfl) (by kernel_rfl) (by kernel_rfl) (fun _ _ _ h => h) (.inl ⟨by rfl, fun W1 h1 => by go_simp⟩) hW ?_
              try simp only [Act.put, List.setIfInBounds_toArray, List.set_cons_zero, List.set_cons_succ]
              refine wpAnyH_take (i := 5) (oi := ⟨some 42, _, _, _, _, _⟩) (v := .pointer (some ⟨wr.heap.size + 1, 1, none⟩)) rfl (by kernel_rfl) (by kernel_rfl) (by kernel_rfl) (fun _ _ _ h => h) (.inl ⟨by rfl, fun W1 h1 => by go_simp⟩) hW ?_
              try simp only [Act.put, List.setIfInBounds_toArray, List.set_cons_zero, List.set_cons_succ]
              refine wpAnyH_take (i := 6) (oi := ⟨some 43, _, _, _, _, _⟩) (v := .slice p.A2 p.n2 p.c2) rfl (by kernel_rfl) (by kernel_rfl) (by kernel_rfl) (fun _ _ _ h => h) (.inl ⟨by rfl, fun W1 h1 => by (have x1 : W1.cell? ⟨wr.heap.size + 1, 1, none⟩ = some (.slice p.A2 p.n2 p.c2) := (by rw [cell_of_row _ _ 1 _ 131 (0, 0) (blk_below G5.out.2.1 h1)]; rfl)); go_simp⟩) hW ?_
              try simp only [Act.put, List.setIfInBounds_toArray, List.set_cons_zero, List.set_cons_succ]
              refine wpAnyH_take (i := 7) (oi := ⟨some 44, _, _, _, _, _⟩) (v := .int .i64 (p.n2 : Int)) rfl (by kernel_rfl) (by kernel_rfl) (by kernel_rfl) (fun _ _ _ h => h) (.inl ⟨by rfl, fun W1 h1 => by go_simp⟩) hW ?_
              try simp only [Act.put, List.setIfInBounds_toArray, List.set_cons_zero, List.set_cons_succ]
              refine wpAnyH_take (i := 8) (oi := ⟨some 45, _, _, _, _, _⟩) (v := .bool true) rfl (by kernel_rfl) (by kernel_rfl) (by kernel_rfl) (fun _ _ _ h => h) (.inl ⟨by rfl, fun W1 h1 => by go_simp⟩) hW ?_
              try simp only [Act.put, List.setIfInBounds_toArray, List.set_cons_zero, List.set_cons_succ]
              refine wpAnyH_take (i := 9) (oi := ⟨some 46, _, _, _, _, _⟩) (v := .bool true) rfl (by kernel_rfl) (by kernel_rfl) (by kernel_rfl) (fun _ _ _ h => h) (.inl ⟨by rfl, fun W1 h1 => by go_simp⟩) hW ?_
              try simp only [Act.put, List.setIfInBounds_toArray, List.set_cons_zero, List.set_cons_succ]
              refine wpAnyH_take (i := 10) (oi := ⟨some 47, _, _, _, _, _⟩) (v := .bool true) rfl (by kernel_rfl) (by kernel_rfl) (by kernel_rfl) (fun _ _ _ h => h) (.inl ⟨by rfl, fun W1 h1 => by go_simp⟩) hW ?_
              try simp only [Act.put, List.setIfInBounds_toArray, List.set_cons_zero, List.set_cons_succ]
              refine wpAnyH_take (i := 11) (oi := ⟨some 48, _, _, _, _, _⟩) (v := undef) rfl (by kernel_rfl) (by kernel_rfl) (by kernel_rfl) (fun _ _ _ h => h) (.inr ⟨by rfl, rfl⟩) hW ?_
              try simp only [Act.put, List.setIfInBounds_toArray, List.set_cons_zero, List.set_cons_succ]
              refine wpAnyH_take (i := 12) (oi := ⟨some 49, _, _, _, _, _⟩) (v := undef) rfl (by kernel_rfl) (by kernel_rfl) (by kernel_rfl) (fun _ _ _ h => h) (.inr ⟨by rfl, rfl⟩) hW ?_
              try simp only [Act.put, List.setIfInBounds_toArray, List.set_cons_zero, List.set_cons_succ]
              refine wpAnyH_take (i := 13) (oi := ⟨some 50, _, _, _, _, _⟩) (v := undef) rfl (by kernel_rfl) (by kernel_rfl) (by kernel_rfl) (fun _ _ _ h => h) (.inr ⟨by rfl, rfl⟩) hW ?_
              try simp only [Act.put, List.setIfInBounds_toArray, List.set_cons_zero, List.set_cons_succ]
              refine wpAnyH_take (i := 14) (oi := ⟨some 51, _, _, _, _, _⟩) (v := undef) rfl (by kernel_rfl) (by kernel_rfl) (by kernel_rfl) (fun _ _ _ h => h) (.inr ⟨by rfl, rfl⟩) hW ?_
              try simp only [Act.put, List.setIfInBounds_toArray, List.set_cons_zero, List.set_cons_succ]
              refine wpAnyH_take (i := 15) (oi := ⟨some 52, _, _, _, _, _⟩) (v := .bool true) rfl (by kernel_rfl) (by kernel_rfl) (by kernel_rfl) (fun _ _ _ h => h) (.inl ⟨by rfl, fun W1 h1 => by go_simp⟩) hW ?_
              try simp only [Act.put, List.setIfInBounds_toArray, List.set_cons_zero, List.set_cons_succ]
              refine wpAnyH_take (i := 16) (oi := ⟨some 53, _, _, _, _, _⟩) (v := .bool true) rfl (by kernel_rfl) (by kernel_rfl) (by kernel_rfl) (fun _ _ _ h => h) (.inl ⟨by rfl, fun W1 h1 => by go_simp⟩) hW ?_
              try simp only [Act.put, List.setIfInBounds_toArray, List.set_cons_zero, List.set_cons_succ]
              refine wpAnyH_take (i := 17) (oi := ⟨some 54, _, _, _, _, _⟩) (v := undef) rfl (by kernel_rfl) (by kernel_rfl) (by kernel_rfl) (fun _ _ _ h => h) (.inr ⟨by rfl, rfl⟩) hW ?_
              try simp only [Act.put, List.setIfInBounds_toArray, List.set_cons_zero, List.set_cons_succ]
              refine wpAnyH_take (i := 18) (oi := ⟨some 55, _, _, _, _, _⟩) (v := undef) rfl (by kernel_rfl) (by kernel_rfl) (by kernel_rfl) (fun _ _ _ h => h) (.inr ⟨by rfl, rfl⟩) hW ?_
              try simp only [Act.put, List.setIfInBounds_toArray, List.set_cons_zero, List.set_cons_succ]
              refine wpAnyH_take (i := 19) (oi := ⟨some 56, _, _, _, _, _⟩) (v := undef) rfl (by kernel_rfl) (by kernel_rfl) (by kernel_rfl) (fun _ _ _ h => h) (.inr ⟨by rfl, rfl⟩) hW ?_
              try simp only [Act.put, List.setIfInBounds_toArray, List.set_cons_zero, List.set_cons_succ]
              refine wpAnyH_take (i := 20) (oi := ⟨some 57, _, _, _, _, _⟩) (v := undef) rfl (by kernel_rfl) (by kernel_rfl) (by kernel_rfl) (fun _ _ _ h => h) (.inr ⟨by rfl, rfl⟩) hW ?_
              try simp only [Act.put, List.setIfInBounds_toArray, List.set_cons_zero, List.set_cons_succ]
              refine wpAnyH_take (i := 21) (oi := ⟨some 58, _, _, _, _, _⟩) (v := undef) rfl (by kernel_rfl) (by kernel_rfl) (by kernel_rfl) (fun _ _ _ h => h) (.inr ⟨by rfl, rfl⟩) hW ?_
              try simp only [Act.put, List.setIfInBounds_toArray, List.set_cons_zero, List.set_cons_succ]
              refine wpAnyH_take (i := 22) (oi := ⟨some 59, _, _, _, _, _⟩) (v := undef) rfl (by kernel_rfl) (by kernel_rfl) (by kernel_rfl) (fun _ _ _ h => h) (.inr ⟨by rfl, rfl⟩) hW ?_
              try simp only [Act.put, List.setIfInBounds_toArray, List.set_cons_zero, List.set_cons_succ]
              refine wpAnyH_take (i := 23) (oi := ⟨some 60, _, _, _, _, _⟩) (v := undef) rfl (by kernel_rfl) (by kernel_rfl) (by kernel_rfl) (fun _ _ _ h => h) (.inr ⟨by rfl, rfl⟩) hW ?_
              try simp only [Act.put, List.setIfInBounds_toArray, List.set_cons_zero, List.set_cons_succ]
              refine wpAnyH_take (i := 24) (oi := ⟨some 61, _, _, _, _, _⟩) (v := undef) rfl (by kernel_rfl) (by kernel_rfl) (by kernel_rfl) (fun _ _ _ h => h) (.inr ⟨by rfl, rfl⟩) hW ?_
              try simp only [Act.put, List.setIfInBounds_toArray, List.set_cons_zero, List.set_cons_succ]
              refine wpAnyH_take (i := 25) (oi := ⟨some 62, _, _, _, _, _⟩) (v := undef) rfl (by kernel_rfl) (by kernel_rfl) (by kernel_rfl) (fun _ _ _ h => h) (.inr ⟨by rfl, rfl⟩) hW ?_
              try simp only [Act.put, List.setIfInBounds_toArray, List.set_cons_zero, List.set_cons_succ]
              refine wpAnyH_take (i := 26) (oi := ⟨some 63, _, _, _, _, _⟩) (v := undef) rfl (by kernel_rfl) (by kernel_rfl) (by kernel_rfl) (fun _ _ _ h => h) (.inr ⟨by rfl, rfl⟩) hW ?_
              try simp only [Act.put, List.setIfInBounds_toArray, List.set_cons_zero, List.set_cons_succ]
              refine wpAnyH_take (i := 27) (oi := ⟨some 64, _, _, _, _, _⟩) (v := undef) rfl (by kernel_rfl) (by kernel_rfl) (by kernel_rfl) (fun _ _ _ h => h) (.inr ⟨by rfl, rfl⟩) hW ?_
              try simp only [Act.put, List.setIfInBounds_toArray, List.set_cons_zero, List.set_cons_succ]
              refine wpAnyH_take (i := 28) (oi := ⟨some 65, _, _, _, _, _⟩) (v := undef) rfl (by kernel_rfl) (by kernel_rfl) (by kernel_rfl) (fun _ _ _ h => h) (.inr ⟨by rfl, rfl⟩) hW ?_
              try simp only [Act.put, List.setIfInBounds_toArray, List.set_cons_zero, List.set_cons_succ]
              refine wpAnyH_take (i := 29) (oi := ⟨some 66, _, _, _, _, _⟩) (v := undef) rfl (by kernel_rfl) (by kernel_rfl) (by kernel_rfl) (fun _ _ _ h => h) (.inr ⟨by rfl, rfl⟩) hW ?_
              try simp only [Act.put, List.setIfInBounds_toArray, List.set_cons_zero, List.set_cons_succ]
              refine wpAnyH_take (i := 30) (oi := ⟨some 67, _, _, _, _, _⟩) (v := undef) rfl (by kernel_rfl) (by kernel_rfl) (by kernel_rfl) (fun _ _ _ h => h) (.inr ⟨by rfl, rfl⟩) hW ?_
              try simp only [Act.put, List.setIfInBounds_toArray, List.set_cons_zero, List.set_cons_succ]
              refine wpAnyH_take (i := 31) (oi := ⟨some 68, _, _, _, _, _⟩) (v := undef) rfl (by kernel_rfl) (by kernel_rfl) (by kernel_rfl) (fun _ _ _ h => h) (.inr ⟨by rfl, rfl⟩) hW ?_
              try simp only [Act.put, List.setIfInBounds_toArray, List.set_cons_zero, List.set_cons_succ]
              refine wpAnyH_take (i := 32) (oi := ⟨some 69, _, _, _, _, _⟩) (v := undef) rfl (by kernel_rfl) (by kernel_rfl) (by kernel_rfl) (fun _ _ _ h => h) (.inr ⟨by rfl, rfl⟩) hW ?_
              try simp only [Act.put, List.setIfInBounds_toArray, List.set_cons_zero, List.set_cons_succ]
              refine wpAnyH_take (i := 33) (oi := ⟨some 70, _, _, _, _, _⟩) (v := undef) rfl (by kernel_rfl) (by kernel_rfl) (by kernel_rfl) (fun _ _ _ h => h) (.inr ⟨by rfl, rfl⟩) hW ?_
              try simp only [Act.put, List.setIfInBounds_toArray, List.set_cons_zero, List.set_cons_succ]
              refine wpAnyH_take (i := 34) (oi := ⟨some 71, _, _, _, _, _⟩) (v := .bool true) rfl (by kernel_rfl) (by kernel_rfl) (by kernel_rfl) (fun _ _ _ h => h) (.inl ⟨by rfl, fun W1 h1 => by go_simp⟩) hW ?_
              try simp only [Act.put, List.setIfInBounds_toArray, List.set_cons_zero, List.set_cons_succ]
              refine wpAnyH_done (by kernel_rfl) ?_ _
              have HF := Aside0.mk (rightB_false (x := ⟨base, snap, l⟩) (fun h => by have := (h.all _ _ HYL.out).inn; have := HL.out.2.1; omega))
              have HWF := Aside0.mk (below_then HBb.out HBb.out.size hS0)
              clear hS0 hW
              go_wp2
              rw [HP.out, HF.out]
              exact ⟨rfl, HWF.out⟩
            by_cases hD : 65536 < p.n3
            · have dK : decide ((160 : Int) < (p.n1 : Int)) = false := decide_eq_false (by omega)
              have dI : decide ((400 : Int) < (p.n2 : Int)) = false := decide_eq_false (by omega)
              have dD : decide ((65536 : Int) < (p.n3 : Int)) = true := decide_eq_true (by omega)
              refine wp_region_held_drew (S := fun w' => Below Wb.heap.size Wb w') (by kernel_rfl) hS0 (fun hW => ?_)
              refine wpAnyH_take (i := 0) (oi := ⟨some 37, _, _, _, _, _⟩) (v := .pointer (some ⟨wr.heap.size + 1, 0, none⟩)) rfl (by kernel_rfl) (by kernel_rfl) (by kernel_rfl) (fun _ _ _ h => h) (.inl ⟨by rfl, fun W1 h1 => by go_simp⟩) hW ?_
              try simp only [Act.put, List.setIfInBounds_toArray, List.set_cons_zero, List.set_cons_succ]
              refine wpAnyH_take (i := 1) (oi := ⟨some 38, _, _, _, _, _⟩) (v := .slice p.A1 p.n1 p.c1) rfl (by kernel_rfl) (by kernel_rfl) (by kernel_rfl) (fun _ _ _ h => h) (.inl ⟨by rfl, fun W1 h1 => by (have x1 : W1.cell? ⟨wr.heap.size + 1, 0, none⟩ = some (.slice p.A1 p.n1 p.c1) := (by rw [cell_of_row _ _ 0 _ 131 (0, 0) (blk_below G5.out.2.1 h1)]; rfl)); go_simp⟩) hW ?_
              try simp only [Act.put, List.setIfInBounds_toArray, List.set_cons_zero, List.set_cons_succ]
              refine wpAnyH_take (i := 2) (oi := ⟨some 39, _, _, _, _, _⟩) (v := .int .i64 (p.n1 : Int)) rfl (by kernel_rfl) (by kernel_rfl) (by kernel_rfl) (fun _ _ _ h => h) (.inl ⟨by rfl, fun W1 h1 => by go_simp⟩) hW ?_
              try simp only [Act.put, List.setIfInBounds_toArray, List.set_cons_zero, List.set_cons_succ]
              refine wpAnyH_take (i := 3) (oi := ⟨some 40, _, _, _, _, _⟩) (v := .bool false) rfl (by kernel_rfl) (by kernel_rfl) (by kernel_rfl) (fun _ _ _ h => h) (.inl ⟨by rfl, fun W1 h1 => by go_simp⟩) hW ?_
              try simp only [Act.put, List.setIfInBounds_toArray, List.set_cons_zero, List.set_cons_succ]
              refine wpAnyH_take (i := 4) (oi := ⟨some 41, _, _, _, _, _⟩) (v := .bool false) rfl (by kernel_rfl) (by kernel_rfl) (by kernel_rfl) (fun _ _ _ h => h) (.inl ⟨by rfl, fun W1 h1 => by go_simp⟩) hW ?_
              try simp only [Act.put, List.setIfInBounds_toArray, List.set_cons_zero, List.set_cons_succ]
              refine wpAnyH_take (i := 5) (oi := ⟨some 42, _, _, _, _, _⟩) (v := .pointer (some ⟨wr.heap.size + 1, 1, none⟩)) rfl (by kernel_rfl) (by kernel_rfl) (by kernel_rfl) (fun _ _ _ h => h) (.inl ⟨by rfl, fun W1 h1 => by go_simp⟩) hW ?_
              try simp only [Act.put, List.setIfInBounds_toArray, List.set_cons_zero, List.set_cons_succ]
              refine wpAnyH_take (i := 6) (oi := ⟨some 43, _, _, _, _, _⟩) (v := .slice p.A2 p.n2 p.c2) rfl (by kernel_rfl) (by kernel_rfl) (by kernel_rfl) (fun _ _ _ h => h) (.inl ⟨by rfl, fun W1 h1 => by (have x1 : W1.cell? ⟨wr.heap.size + 1, 1, none⟩ = some (.slice p.A2 p.n2 p.c2) := (by rw [cell_of_row _ _ 1 _ 131 (0, 0) (blk_below G5.out.2.1 h1)]; rfl)); go_simp⟩) hW ?_
              try simp only [Act.put, List.setIfInBounds_toArray, List.set_cons_zero, List.set_cons_succ]
              refine wpAnyH_take (i := 7) (oi := ⟨some 44, _, _, _, _, _⟩) (v := .int .i64 (p.n2 : Int)) rfl (by kernel_rfl) (by kernel_rfl) (by kernel_rfl) (fun _ _ _ h => h) (.inl ⟨by rfl, fun W1 h1 => by go_simp⟩) hW ?_
              try simp only [Act.put, List.setIfInBounds_toArray, List.set_cons_zero, List.set_cons_succ]
              refine wpAnyH_take (i := 8) (oi := ⟨some 45, _, _, _, _, _⟩) (v := .bool false) rfl (by kernel_rfl) (by kernel_rfl) (by kernel_rfl) (fun _ _ _ h => h) (.inl ⟨by rfl, fun W1 h1 => by go_simp⟩) hW ?_
              try simp only [Act.put, List.setIfInBounds_toArray, List.set_cons_zero, List.set_cons_succ]
              refine wpAnyH_take (i := 9) (oi := ⟨some 46, _, _, _, _, _⟩) (v := .bool false) rfl (by kernel_rfl) (by kernel_rfl) (by kernel_rfl) (fun _ _ _ h => h) (.inl ⟨by rfl, fun W1 h1 => by go_simp⟩) hW ?_
              try simp only [Act.put, List.setIfInBounds_toArray, List.set_cons_zero, List.set_cons_succ]
              refine wpAnyH_take (i := 10) (oi := ⟨some 47, _, _, _, _, _⟩) (v := .bool false) rfl (by kernel_rfl) (by kernel_rfl) (by kernel_rfl) (fun _ _ _ h => h) (.inl ⟨by rfl, fun W1 h1 => by go_simp⟩) hW ?_
              try simp only [Act.put, List.setIfInBounds_toArray, List.set_cons_zero, List.set_cons_succ]
              refine wpAnyH_take (i := 11) (oi := ⟨some 48, _, _, _, _, _⟩) (v := .pointer (some ⟨wr.heap.size + 1, 2, none⟩)) rfl (by kernel_rfl) (by kernel_rfl) (by kernel_rfl) (fun _ _ _ h => h) (.inl ⟨by rfl, fun W1 h1 => by go_simp⟩) hW ?_
              try simp only [Act.put, List.setIfInBounds_toArray, List.set_cons_zero, List.set_cons_succ]
              refine wpAnyH_take (i := 12) (oi := ⟨some 49, _, _, _, _, _⟩) (v := .slice p.A3 p.n3 p.c3) rfl (by kernel_rfl) (by kernel_rfl) (by kernel_rfl) (fun _ _ _ h => h) (.inl ⟨by rfl, fun W1 h1 => by (have x1 : W1.cell? ⟨wr.heap.size + 1, 2, none⟩ = some (.slice p.A3 p.n3 p.c3) := (by rw [cell_of_row _ _ 2 _ 131 (0, 0) (blk_below G5.out.2.1 h1)]; rfl)); go_simp⟩) hW ?_
              try simp only [Act.put, List.setIfInBounds_toArray, List.set_cons_zero, List.set_cons_succ]
              refine wpAnyH_take (i := 13) (oi := ⟨some 50, _, _, _, _, _⟩) (v := .int .i64 (p.n3 : Int)) rfl (by kernel_rfl) (by kernel_rfl) (by kernel_rfl) (fun _ _ _ h => h) (.inl ⟨by rfl, fun W1 h1 => by go_simp⟩) hW ?_
              try simp only [Act.put, List.setIfInBounds_toArray, List.set_cons_zero, List.set_cons_succ]
              refine wpAnyH_take (i := 14) (oi := ⟨some 51, _, _, _, _, _⟩) (v := .bool true) rfl (by kernel_rfl) (by kernel_rfl) (by kernel_rfl) (fun _ _ _ h => h) (.inl ⟨by rfl, fun W1 h1 => by go_simp⟩) hW ?_
              try simp only [Act.put, List.setIfInBounds_toArray, List.set_cons_zero, List.set_cons_succ]
              refine wpAnyH_take (i := 15) (oi := ⟨some 52, _, _, _, _, _⟩) (v := .bool true) rfl (by kernel_rfl) (by kernel_rfl) (by kernel_rfl) (fun _ _ _ h => h) (.inl ⟨by rfl, fun W1 h1 => by go_simp⟩) hW ?_
              try simp only [Act.put, List.setIfInBounds_toArray, List.set_cons_zero, List.set_cons_succ]
              refine wpAnyH_take (i := 16) (oi := ⟨some 53, _, _, _, _, _⟩) (v := .bool true) rfl (by kernel_rfl) (by kernel_rfl) (by kernel_rfl) (fun _ _ _ h => h) (.inl ⟨by rfl, fun W1 h1 => by go_simp⟩) hW ?_
              try simp only [Act.put, List.setIfInBounds_toArray, List.set_cons_zero, List.set_cons_succ]
              refine wpAnyH_take (i := 17) (oi := ⟨some 54, _, _, _, _, _⟩) (v := undef) rfl (by kernel_rfl) (by kernel_rfl) (by kernel_rfl) (fun _ _ _ h => h) (.inr ⟨by rfl, rfl⟩) hW ?_
              try simp only [Act.put, List.setIfInBounds_toArray, List.set_cons_zero, List.set_cons_succ]
              refine wpAnyH_take (i := 18) (oi := ⟨some 55, _, _, _, _, _⟩) (v := undef) rfl (by kernel_rfl) (by kernel_rfl) (by kernel_rfl) (fun _ _ _ h => h) (.inr ⟨by rfl, rfl⟩) hW ?_
              try simp only [Act.put, List.setIfInBounds_toArray, List.set_cons_zero, List.set_cons_succ]
              refine wpAnyH_take (i := 19) (oi := ⟨some 56, _, _, _, _, _⟩) (v := undef) rfl (by kernel_rfl) (by kernel_rfl) (by kernel_rfl) (fun _ _ _ h => h) (.inr ⟨by rfl, rfl⟩) hW ?_
              try simp only [Act.put, List.setIfInBounds_toArray, List.set_cons_zero, List.set_cons_succ]
              refine wpAnyH_take (i := 20) (oi := ⟨some 57, _, _, _, _, _⟩) (v := undef) rfl (by kernel_rfl) (by kernel_rfl) (by kernel_rfl) (fun _ _ _ h => h) (.inr ⟨by rfl, rfl⟩) hW ?_
              try simp only [Act.put, List.setIfInBounds_toArray, List.set_cons_zero, List.set_cons_succ]
              refine wpAnyH_take (i := 21) (oi := ⟨some 58, _, _, _, _, _⟩) (v := undef) rfl (by kernel_rfl) (by kernel_rfl) (by kernel_rfl) (fun _ _ _ h => h) (.inr ⟨by rfl, rfl⟩) hW ?_
              try simp only [Act.put, List.setIfInBounds_toArray, List.set_cons_zero, List.set_cons_succ]
              refine wpAnyH_take (i := 22) (oi := ⟨some 59, _, _, _, _, _⟩) (v := undef) rfl (by kernel_rfl) (by kernel_rfl) (by kernel_rfl) (fun _ _ _ h => h) (.inr ⟨by rfl, rfl⟩) hW ?_
              try simp only [Act.put, List.setIfInBounds_toArray, List.set_cons_zero, List.set_cons_succ]
              refine wpAnyH_take (i := 23) (oi := ⟨some 60, _, _, _, _, _⟩) (v := undef) rfl (by kernel_rfl) (by kernel_rfl) (by kernel_rfl) (fun _ _ _ h => h) (.inr ⟨by rfl, rfl⟩) hW ?_
              try simp only [Act.put, List.setIfInBounds_toArray, List.set_cons_zero, List.set_cons_succ]
              refine wpAnyH_take (i := 24) (oi := ⟨some 61, _, _, _, _, _⟩) (v := undef) rfl (by kernel_rfl) (by kernel_rfl) (by kernel_rfl) (fun _ _ _ h => h) (.inr ⟨by rfl, rfl⟩) hW ?_
              try simp only [Act.put, List.setIfInBounds_toArray, List.set_cons_zero, List.set_cons_succ]
              refine wpAnyH_take (i := 25) (oi := ⟨some 62, _, _, _, _, _⟩) (v := undef) rfl (by kernel_rfl) (by kernel_rfl) (by kernel_rfl) (fun _ _ _ h => h) (.inr ⟨by rfl, rfl⟩) hW ?_
              try simp only [Act.put, List.setIfInBounds_toArray, List.set_cons_zero, List.set_cons_succ]
              refine wpAnyH_take (i := 26) (oi := ⟨some 63, _, _, _, _, _⟩) (v := undef) rfl (by kernel_rfl) (by kernel_rfl) (by kernel_rfl) (fun _ _ _ h => h) (.inr ⟨by rfl, rfl⟩) hW ?_
              try simp only [Act.put, List.setIfInBounds_toArray, List.set_cons_zero, List.set_cons_succ]
              refine wpAnyH_take (i := 27) (oi := ⟨some 64, _, _, _, _, _⟩) (v := undef) rfl (by kernel_rfl) (by kernel_rfl) (by kernel_rfl) (fun _ _ _ h => h) (.inr ⟨by rfl, rfl⟩) hW ?_
              try simp only [Act.put, List.setIfInBounds_toArray, List.set_cons_zero, List.set_cons_succ]
              refine wpAnyH_take (i := 28) (oi := ⟨some 65, _, _, _, _, _⟩) (v := undef) rfl (by kernel_rfl) (by kernel_rfl) (by kernel_rfl) (fun _ _ _ h => h) (.inr ⟨by rfl, rfl⟩) hW ?_
              try simp only [Act.put, List.setIfInBounds_toArray, List.set_cons_zero, List.set_cons_succ]
              refine wpAnyH_take (i := 29) (oi := ⟨some 66, _, _, _, _, _⟩) (v := undef) rfl (by kernel_rfl) (by kernel_rfl) (by kernel_rfl) (fun _ _ _ h => h) (.inr ⟨by rfl, rfl⟩) hW ?_
              try simp only [Act.put, List.setIfInBounds_toArray, List.set_cons_zero, List.set_cons_succ]
              refine wpAnyH_take (i := 30) (oi := ⟨some 67, _, _, _, _, _⟩) (v := undef) rfl (by kernel_rfl) (by kernel_rfl) (by kernel_rfl) (fun _ _ _ h => h) (.inr ⟨by rfl, rfl⟩) hW ?_
              try simp only [Act.put, List.setIfInBounds_toArray, List.set_cons_zero, List.set_cons_succ]
              refine wpAnyH_take (i := 31) (oi := ⟨some 68, _, _, _, _, _⟩) (v := undef) rfl (by kernel_rfl) (by kernel_rfl) (by kernel_rfl) (fun _ _ _ h => h) (.inr ⟨by rfl, rfl⟩) hW ?_
              try simp only [Act.put, List.setIfInBounds_toArray, List.set_cons_zero, List.set_cons_succ]
              refine wpAnyH_take (i := 32) (oi := ⟨some 69, _, _, _, _, _⟩) (v := undef) rfl (by kernel_rfl) (by kernel_rfl) (by kernel_rfl) (fun _ _ _ h => h) (.inr ⟨by rfl, rfl⟩) hW ?_
              try simp only [Act.put, List.setIfInBounds_toArray, List.set_cons_zero, List.set_cons_succ]
              refine wpAnyH_take (i := 33) (oi := ⟨some 70, _, _, _, _, _⟩) (v := undef) rfl (by kernel_rfl) (by kernel_rfl) (by kernel_rfl) (fun _ _ _ h => h) (.inr ⟨by rfl, rfl⟩) hW ?_
              try simp only [Act.put, List.setIfInBounds_toArray, List.set_cons_zero, List.set_cons_succ]
              refine wpAnyH_take (i := 34) (oi := ⟨some 71, _, _, _, _, _⟩) (v := .bool true) rfl (by kernel_rfl) (by kernel_rfl) (by kernel_rfl) (fun _ _ _ h => h) (.inl ⟨by rfl, fun W1 h1 => by go_simp⟩) hW ?_
              try simp only [Act.put, List.setIfInBounds_toArray, List.set_cons_zero, List.set_cons_succ]
              refine wpAnyH_done (by kernel_rfl) ?_ _
              have HF := Aside0.mk (rightB_false (x := ⟨base, snap, l⟩) (fun h => by have := (h.all _ _ HYL.out).data; have := HL.out.2.2; omega))
              have HWF := Aside0.mk (below_then HBb.out HBb.out.size hS0)
              clear hS0 hW
              go_wp2
              rw [HP.out, HF.out]
              exact ⟨rfl, HWF.out⟩
            have dK : decide ((160 : Int) < (p.n1 : Int)) = false := decide_eq_false (by omega)
            have dI : decide ((400 : Int) < (p.n2 : Int)) = false := decide_eq_false (by omega)
            have dD : decide ((65536 : Int) < (p.n3 : Int)) = false := decide_eq_false (by omega)
            rcases j with _ | m
            · refine wp_region_held_drew (S := fun w' => Below Wb.heap.size Wb w') (by kernel_rfl) hS0 (fun hW => ?_)
              refine wpAnyH_take (i := 0) (oi := ⟨some 37, _, _, _, _, _⟩) (v := .pointer (some ⟨wr.heap.size + 1, 0, none⟩)) rfl (by kernel_rfl) (by kernel_rfl) (by kernel_rfl) (fun _ _ _ h => h) (.inl ⟨by rfl, fun W1 h1 => by go_simp⟩) hW ?_
              try simp only [Act.put, List.setIfInBounds_toArray, List.set_cons_zero, List.set_cons_succ]
              refine wpAnyH_take (i := 1) (oi := ⟨some 38, _, _, _, _, _⟩) (v := .slice p.A1 p.n1 p.c1) rfl (by kernel_rfl) (by kernel_rfl) (by kernel_rfl) (fun _ _ _ h => h) (.inl ⟨by rfl, fun W1 h1 => by (have x1 : W1.cell? ⟨wr.heap.size + 1, 0, none⟩ = some (.slice p.A1 p.n1 p.c1) := (by rw [cell_of_row _ _ 0 _ 131 (0, 0) (blk_below G5.out.2.1 h1)]; rfl)); go_simp⟩) hW ?_
              try simp only [Act.put, List.setIfInBounds_toArray, List.set_cons_zero, List.set_cons_succ]
              refine wpAnyH_take (i := 2) (oi := ⟨some 39, _, _, _, _, _⟩) (v := .int .i64 (p.n1 : Int)) rfl (by kernel_rfl) (by kernel_rfl) (by kernel_rfl) (fun _ _ _ h => h) (.inl ⟨by rfl, fun W1 h1 => by go_simp⟩) hW ?_
              try simp only [Act.put, List.setIfInBounds_toArray, List.set_cons_zero, List.set_cons_succ]
              refine wpAnyH_take (i := 3) (oi := ⟨some 40, _, _, _, _, _⟩) (v := .bool false) rfl (by kernel_rfl) (by kernel_rfl) (by kernel_rfl) (fun _ _ _ h => h) (.inl ⟨by rfl, fun W1 h1 => by go_simp⟩) hW ?_
              try simp only [Act.put, List.setIfInBounds_toArray, List.set_cons_zero, List.set_cons_succ]
              refine wpAnyH_take (i := 4) (oi := ⟨some 41, _, _, _, _, _⟩) (v := .bool false) rfl (by kernel_rfl) (by kernel_rfl) (by kernel_rfl) (fun _ _ _ h => h) (.inl ⟨by rfl, fun W1 h1 => by go_simp⟩) hW ?_
              try simp only [Act.put, List.setIfInBounds_toArray, List.set_cons_zero, List.set_cons_succ]
              refine wpAnyH_take (i := 5) (oi := ⟨some 42, _, _, _, _, _⟩) (v := .pointer (some ⟨wr.heap.size + 1, 1, none⟩)) rfl (by kernel_rfl) (by kernel_rfl) (by kernel_rfl) (fun _ _ _ h => h) (.inl ⟨by rfl, fun W1 h1 => by go_simp⟩) hW ?_
              try simp only [Act.put, List.setIfInBounds_toArray, List.set_cons_zero, List.set_cons_succ]
              refine wpAnyH_take (i := 6) (oi := ⟨some 43, _, _, _, _, _⟩) (v := .slice p.A2 p.n2 p.c2) rfl (by kernel_rfl) (by kernel_rfl) (by kernel_rfl) (fun _ _ _ h => h) (.inl ⟨by rfl, fun W1 h1 => by (have x1 : W1.cell? ⟨wr.heap.size + 1, 1, none⟩ = some (.slice p.A2 p.n2 p.c2) := (by rw [cell_of_row _ _ 1 _ 131 (0, 0) (blk_below G5.out.2.1 h1)]; rfl)); go_simp⟩) hW ?_
              try simp only [Act.put, List.setIfInBounds_toArray, List.set_cons_zero, List.set_cons_succ]
              refine wpAnyH_take (i := 7) (oi := ⟨some 44, _, _, _, _, _⟩) (v := .int .i64 (p.n2 : Int)) rfl (by kernel_rfl) (by kernel_rfl) (by kernel_rfl) (fun _ _ _ h => h) (.inl ⟨by rfl, fun W1 h1 => by go_simp⟩) hW ?_
              try simp only [Act.put, List.setIfInBounds_toArray, List.set_cons_zero, List.set_cons_succ]
              refine wpAnyH_take (i := 8) (oi := ⟨some 45, _, _, _, _, _⟩) (v := .bool false) rfl (by kernel_rfl) (by kernel_rfl) (by kernel_rfl) (fun _ _ _ h => h) (.inl ⟨by rfl, fun W1 h1 => by go_simp⟩) hW ?_
              try simp only [Act.put, List.setIfInBounds_toArray, List.set_cons_zero, List.set_cons_succ]
              refine wpAnyH_take (i := 9) (oi := ⟨some 46, _, _, _, _, _⟩) (v := .bool false) rfl (by kernel_rfl) (by kernel_rfl) (by kernel_rfl) (fun _ _ _ h => h) (.inl ⟨by rfl, fun W1 h1 => by go_simp⟩) hW ?_
              try simp only [Act.put, List.setIfInBounds_toArray, List.set_cons_zero, List.set_cons_succ]
              refine wpAnyH_take (i := 10) (oi := ⟨some 47, _, _, _, _, _⟩) (v := .bool false) rfl (by kernel_rfl) (by kernel_rfl) (by kernel_rfl) (fun _ _ _ h => h) (.inl ⟨by rfl, fun W1 h1 => by go_simp⟩) hW ?_
              try simp only [Act.put, List.setIfInBounds_toArray, List.set_cons_zero, List.set_cons_succ]
              refine wpAnyH_take (i := 11) (oi := ⟨some 48, _, _, _, _, _⟩) (v := .pointer (some ⟨wr.heap.size + 1, 2, none⟩)) rfl (by kernel_rfl) (by kernel_rfl) (by kernel_rfl) (fun _ _ _ h => h) (.inl ⟨by rfl, fun W1 h1 => by go_simp⟩) hW ?_
              try simp only [Act.put, List.setIfInBounds_toArray, List.set_cons_zero, List.set_cons_succ]
              refine wpAnyH_take (i := 12) (oi := ⟨some 49, _, _, _, _, _⟩) (v := .slice p.A3 p.n3 p.c3) rfl (by kernel_rfl) (by kernel_rfl) (by kernel_rfl) (fun _ _ _ h => h) (.inl ⟨by rfl, fun W1 h1 => by (have x1 : W1.cell? ⟨wr.heap.size + 1, 2, none⟩ = some (.slice p.A3 p.n3 p.c3) := (by rw [cell_of_row _ _ 2 _ 131 (0, 0) (blk_below G5.out.2.1 h1)]; rfl)); go_simp⟩) hW ?_
              try simp only [Act.put, List.setIfInBounds_toArray, List.set_cons_zero, List.set_cons_succ]
              refine wpAnyH_take (i := 13) (oi := ⟨some 50, _, _, _, _, _⟩) (v := .int .i64 (p.n3 : Int)) rfl (by kernel_rfl) (by kernel_rfl) (by kernel_rfl) (fun _ _ _ h => h) (.inl ⟨by rfl, fun W1 h1 => by go_simp⟩) hW ?_
              try simp only [Act.put, List.setIfInBounds_toArray, List.set_cons_zero, List.set_cons_succ]
              refine wpAnyH_take (i := 14) (oi := ⟨some 51, _, _, _, _, _⟩) (v := .bool false) rfl (by kernel_rfl) (by kernel_rfl) (by kernel_rfl) (fun _ _ _ h => h) (.inl ⟨by rfl, fun W1 h1 => by go_simp⟩) hW ?_
              try simp only [Act.put, List.setIfInBounds_toArray, List.set_cons_zero, List.set_cons_succ]
              refine wpAnyH_take (i := 15) (oi := ⟨some 52, _, _, _, _, _⟩) (v := .bool false) rfl (by kernel_rfl) (by kernel_rfl) (by kernel_rfl) (fun _ _ _ h => h) (.inl ⟨by rfl, fun W1 h1 => by go_simp⟩) hW ?_
              try simp only [Act.put, List.setIfInBounds_toArray, List.set_cons_zero, List.set_cons_succ]
              refine wpAnyH_take (i := 16) (oi := ⟨some 53, _, _, _, _, _⟩) (v := .bool false) rfl (by kernel_rfl) (by kernel_rfl) (by kernel_rfl) (fun _ _ _ h => h) (.inl ⟨by rfl, fun W1 h1 => by go_simp⟩) hW ?_
              try simp only [Act.put, List.setIfInBounds_toArray, List.set_cons_zero, List.set_cons_succ]
              refine wpAnyH_take (i := 17) (oi := ⟨some 54, _, _, _, _, _⟩) (v := .int .i64 (0 : Int)) rfl (by kernel_rfl) (by kernel_rfl) (by kernel_rfl) (fun _ _ _ h => h) (.inl ⟨by rfl, fun W1 h1 => by go_simp⟩) hW ?_
              try simp only [Act.put, List.setIfInBounds_toArray, List.set_cons_zero, List.set_cons_succ]
              refine wpAnyH_take (i := 18) (oi := ⟨some 55, _, _, _, _, _⟩) (v := .bool false) rfl (by kernel_rfl) (by kernel_rfl) (by kernel_rfl) (fun _ _ _ h => h) (.inl ⟨by rfl, fun W1 h1 => by go_simp⟩) hW ?_
              try simp only [Act.put, List.setIfInBounds_toArray, List.set_cons_zero, List.set_cons_succ]
              refine wpAnyH_take (i := 19) (oi := ⟨some 56, _, _, _, _, _⟩) (v := .bool false) rfl (by kernel_rfl) (by kernel_rfl) (by kernel_rfl) (fun _ _ _ h => h) (.inl ⟨by rfl, fun W1 h1 => by go_simp⟩) hW ?_
              try simp only [Act.put, List.setIfInBounds_toArray, List.set_cons_zero, List.set_cons_succ]
              refine wpAnyH_take (i := 20) (oi := ⟨some 57, _, _, _, _, _⟩) (v := undef) rfl (by kernel_rfl) (by kernel_rfl) (by kernel_rfl) (fun _ _ _ h => h) (.inr ⟨by rfl, rfl⟩) hW ?_
              try simp only [Act.put, List.setIfInBounds_toArray, List.set_cons_zero, List.set_cons_succ]
              refine wpAnyH_take (i := 21) (oi := ⟨some 58, _, _, _, _, _⟩) (v := undef) rfl (by kernel_rfl) (by kernel_rfl) (by kernel_rfl) (fun _ _ _ h => h) (.inr ⟨by rfl, rfl⟩) hW ?_
              try simp only [Act.put, List.setIfInBounds_toArray, List.set_cons_zero, List.set_cons_succ]
              refine wpAnyH_take (i := 22) (oi := ⟨some 59, _, _, _, _, _⟩) (v := undef) rfl (by kernel_rfl) (by kernel_rfl) (by kernel_rfl) (fun _ _ _ h => h) (.inr ⟨by rfl, rfl⟩) hW ?_
              try simp only [Act.put, List.setIfInBounds_toArray, List.set_cons_zero, List.set_cons_succ]
              refine wpAnyH_take (i := 23) (oi := ⟨some 60, _, _, _, _, _⟩) (v := undef) rfl (by kernel_rfl) (by kernel_rfl) (by kernel_rfl) (fun _ _ _ h => h) (.inr ⟨by rfl, rfl⟩) hW ?_
              try simp only [Act.put, List.setIfInBounds_toArray, List.set_cons_zero, List.set_cons_succ]
              refine wpAnyH_take (i := 24) (oi := ⟨some 61, _, _, _, _, _⟩) (v := undef) rfl (by kernel_rfl) (by kernel_rfl) (by kernel_rfl) (fun _ _ _ h => h) (.inr ⟨by rfl, rfl⟩) hW ?_
              try simp only [Act.put, List.setIfInBounds_toArray, List.set_cons_zero, List.set_cons_succ]
              refine wpAnyH_take (i := 25) (oi := ⟨some 62, _, _, _, _, _⟩) (v := undef) rfl (by kernel_rfl) (by kernel_rfl) (by kernel_rfl) (fun _ _ _ h => h) (.inr ⟨by rfl, rfl⟩) hW ?_
              try simp only [Act.put, List.setIfInBounds_toArray, List.set_cons_zero, List.set_cons_succ]
              refine wpAnyH_take (i := 26) (oi := ⟨some 63, _, _, _, _, _⟩) (v := undef) rfl (by kernel_rfl) (by kernel_rfl) (by kernel_rfl) (fun _ _ _ h => h) (.inr ⟨by rfl, rfl⟩) hW ?_
              try simp only [Act.put, List.setIfInBounds_toArray, List.set_cons_zero, List.set_cons_succ]
              refine wpAnyH_take (i := 27) (oi := ⟨some 64, _, _, _, _, _⟩) (v := undef) rfl (by kernel_rfl) (by kernel_rfl) (by kernel_rfl) (fun _ _ _ h => h) (.inr ⟨by rfl, rfl⟩) hW ?_
              try simp only [Act.put, List.setIfInBounds_toArray, List.set_cons_zero, List.set_cons_succ]
              refine wpAnyH_take (i := 28) (oi := ⟨some 65, _, _, _, _, _⟩) (v := undef) rfl (by kernel_rfl) (by kernel_rfl) (by kernel_rfl) (fun _ _ _ h => h) (.inr ⟨by rfl, rfl⟩) hW ?_
              try simp only [Act.put, List.setIfInBounds_toArray, List.set_cons_zero, List.set_cons_succ]
              refine wpAnyH_take (i := 29) (oi := ⟨some 66, _, _, _, _, _⟩) (v := undef) rfl (by kernel_rfl) (by kernel_rfl) (by kernel_rfl) (fun _ _ _ h => h) (.inr ⟨by rfl, rfl⟩) hW ?_
              try simp only [Act.put, List.setIfInBounds_toArray, List.set_cons_zero, List.set_cons_succ]
              refine wpAnyH_take (i := 30) (oi := ⟨some 67, _, _, _, _, _⟩) (v := undef) rfl (by kernel_rfl) (by kernel_rfl) (by kernel_rfl) (fun _ _ _ h => h) (.inr ⟨by rfl, rfl⟩) hW ?_
              try simp only [Act.put, List.setIfInBounds_toArray, List.set_cons_zero, List.set_cons_succ]
              refine wpAnyH_take (i := 31) (oi := ⟨some 68, _, _, _, _, _⟩) (v := undef) rfl (by kernel_rfl) (by kernel_rfl) (by kernel_rfl) (fun _ _ _ h => h) (.inr ⟨by rfl, rfl⟩) hW ?_
              try simp only [Act.put, List.setIfInBounds_toArray, List.set_cons_zero, List.set_cons_succ]
              refine wpAnyH_take (i := 32) (oi := ⟨some 69, _, _, _, _, _⟩) (v := undef) rfl (by kernel_rfl) (by kernel_rfl) (by kernel_rfl) (fun _ _ _ h => h) (.inr ⟨by rfl, rfl⟩) hW ?_
              try simp only [Act.put, List.setIfInBounds_toArray, List.set_cons_zero, List.set_cons_succ]
              refine wpAnyH_take (i := 33) (oi := ⟨some 70, _, _, _, _, _⟩) (v := .bool false) rfl (by kernel_rfl) (by kernel_rfl) (by kernel_rfl) (fun _ _ _ h => h) (.inl ⟨by rfl, fun W1 h1 => by go_simp⟩) hW ?_
              try simp only [Act.put, List.setIfInBounds_toArray, List.set_cons_zero, List.set_cons_succ]
              refine wpAnyH_take (i := 34) (oi := ⟨some 71, _, _, _, _, _⟩) (v := .bool false) rfl (by kernel_rfl) (by kernel_rfl) (by kernel_rfl) (fun _ _ _ h => h) (.inl ⟨by rfl, fun W1 h1 => by go_simp⟩) hW ?_
              try simp only [Act.put, List.setIfInBounds_toArray, List.set_cons_zero, List.set_cons_succ]
              refine wpAnyH_done (by kernel_rfl) ?_ _
              have y4 : Wb.drew.cell? ⟨wr.heap.size, 3, none⟩ = some (.bool p.g) := by rw [cell_of_row _ _ 3 _ 133 (0, 0) (blk_below G5.out.2.2 hS0)]; rfl
              have y1 : Wb.drew.cell? ⟨w.heap.size, 0, none⟩ = some (.string base) := by rw [cell_of_row _ _ 0 _ 79 (0, 0) (blk_below G5.out.1 hS0)]; rfl
              have y5 : Wb.drew.cell? ⟨wr.heap.size + 1, 1, none⟩ = some (.slice p.A2 p.n2 p.c2) := by rw [cell_of_row _ _ 1 _ 131 (0, 0) (blk_below G5.out.2.1 hS0)]; rfl
              have y6 : Wb.drew.cell? ⟨wr.heap.size + 1, 2, none⟩ = some (.slice p.A3 p.n3 p.c3) := by rw [cell_of_row _ _ 2 _ 131 (0, 0) (blk_below G5.out.2.1 hS0)]; rfl
              have HWF := Aside0.mk (below_then HBb.out HBb.out.size hS0)
              have HW0F := Aside0.mk (below_then HB0b.out HB0b.out.size hS0)
              clear hS0 hW
              generalize hpg : p.g = pg at *
              cases pg with
              | false =>
                have HO := Aside0.mk (upTo_succ (x := ⟨base, snap, l⟩) HU.out HYL.out ⟨by have := HL.out.1; omega, by have := HL.out.2.1; omega, by have := HL.out.2.2; omega, fun k hk => by simp at hk, fun h => by rw [← HPG.out] at h; cases h⟩)
                go_wp2
                go_roundw
                case rel => exact ⟨0 + 1, by go_num, by omega, HO, HW0F⟩
                case measure => simp [intOf]; omega
              | true =>
                by_cases hnd : 0 < p.n2 + p.n3
                · have HF := Aside0.mk (rightB_false (x := ⟨base, snap, l⟩) (fun h => by have := (h.all _ _ HYL.out).gone HPG.out.symm; have := HL.out.2.1; have := HL.out.2.2; omega))
                  have dn2 : decide ((0 : Int) < (p.n2 : Int) + (p.n3 : Int)) = true := decide_eq_true (by omega)
                  go_wp2
                  rw [HP.out, HF.out]
                  exact ⟨rfl, HWF.out⟩
                · have HO := Aside0.mk (upTo_succ (x := ⟨base, snap, l⟩) HU.out HYL.out ⟨by have := HL.out.1; omega, by have := HL.out.2.1; omega, by have := HL.out.2.2; omega, fun k hk => by simp at hk, fun h => ⟨hb0, by have := HL.out.2.1; omega, by have := HL.out.2.2; omega⟩⟩)
                  have dn2 : decide ((0 : Int) < (p.n2 : Int) + (p.n3 : Int)) = false := decide_eq_false (by omega)
                  go_wp2
                  go_roundw
                  case rel => exact ⟨0 + 1, by go_num, by omega, HO, HW0F⟩
                  case measure => simp [intOf]; omega
            · have hxm := hx m (by omega)
              have hcm := H.out.each m (by omega)
              obtain ⟨q, hqq⟩ : ∃ q, q = xs.getD m default := ⟨_, rfl⟩
              obtain ⟨z, hzz⟩ : ∃ z, z = l.getD m default := ⟨_, rfl⟩
              rw [← hqq] at hxm hcm
              rw [← hzz] at hcm
              have HXQ := Aside0.mk hxm
              have HCQ := Aside0.mk hcm.1
              have HZL := Aside0.mk (show l[m]? = some z by
                have hl := H.out.len
                rw [hzz, List.getD_eq_getElem?_getD, List.getElem?_eq_getElem (by omega)]; rfl)
              have hwm : IntKind.i64.wrap (m : Int) = (m : Int) := by rw [IntKind.wrap_i64]; omega
              have hmn : m < n := by omega
              clear hxm hcm hqq hzz
              cases hge : Op.bytesLess z.key.toList y.key.toList with
              | false =>
                have hgq : ∀ W : World, (binOp .geq 9 (.string z.key) (.string y.key)).run Try.prog W = .ok (.bool true) W := fun W => by simp [binOp, Op.stringOp, hge]
                refine wp_region_held_drew (S := fun w' => Below Wb.heap.size Wb w') (by kernel_rfl) hS0 (fun hW => ?_)
                refine wpAnyH_take (i := 0) (oi := ⟨some 37, _, _, _, _, _⟩) (v := .pointer (some ⟨wr.heap.size + 1, 0, none⟩)) rfl (by kernel_rfl) (by kernel_rfl) (by kernel_rfl) (fun _ _ _ h => h) (.inl ⟨by rfl, fun W1 h1 => by go_simp⟩) hW ?_
                try simp only [Act.put, List.setIfInBounds_toArray, List.set_cons_zero, List.set_cons_succ]
                refine wpAnyH_take (i := 1) (oi := ⟨some 38, _, _, _, _, _⟩) (v := .slice p.A1 p.n1 p.c1) rfl (by kernel_rfl) (by kernel_rfl) (by kernel_rfl) (fun _ _ _ h => h) (.inl ⟨by rfl, fun W1 h1 => by (have x1 : W1.cell? ⟨wr.heap.size + 1, 0, none⟩ = some (.slice p.A1 p.n1 p.c1) := (by rw [cell_of_row _ _ 0 _ 131 (0, 0) (blk_below G5.out.2.1 h1)]; rfl)); go_simp⟩) hW ?_
                try simp only [Act.put, List.setIfInBounds_toArray, List.set_cons_zero, List.set_cons_succ]
                refine wpAnyH_take (i := 2) (oi := ⟨some 39, _, _, _, _, _⟩) (v := .int .i64 (p.n1 : Int)) rfl (by kernel_rfl) (by kernel_rfl) (by kernel_rfl) (fun _ _ _ h => h) (.inl ⟨by rfl, fun W1 h1 => by go_simp⟩) hW ?_
                try simp only [Act.put, List.setIfInBounds_toArray, List.set_cons_zero, List.set_cons_succ]
                refine wpAnyH_take (i := 3) (oi := ⟨some 40, _, _, _, _, _⟩) (v := .bool false) rfl (by kernel_rfl) (by kernel_rfl) (by kernel_rfl) (fun _ _ _ h => h) (.inl ⟨by rfl, fun W1 h1 => by go_simp⟩) hW ?_
                try simp only [Act.put, List.setIfInBounds_toArray, List.set_cons_zero, List.set_cons_succ]
                refine wpAnyH_take (i := 4) (oi := ⟨some 41, _, _, _, _, _⟩) (v := .bool false) rfl (by kernel_rfl) (by kernel_rfl) (by kernel_rfl) (fun _ _ _ h => h) (.inl ⟨by rfl, fun W1 h1 => by go_simp⟩) hW ?_
                try simp only [Act.put, List.setIfInBounds_toArray, List.set_cons_zero, List.set_cons_succ]
                refine wpAnyH_take (i := 5) (oi := ⟨some 42, _, _, _, _, _⟩) (v := .pointer (some ⟨wr.heap.size + 1, 1, none⟩)) rfl (by kernel_rfl) (by kernel_rfl) (by kernel_rfl) (fun _ _ _ h => h) (.inl ⟨by rfl, fun W1 h1 => by go_simp⟩) hW ?_
                try simp only [Act.put, List.setIfInBounds_toArray, List.set_cons_zero, List.set_cons_succ]
                refine wpAnyH_take (i := 6) (oi := ⟨some 43, _, _, _, _, _⟩) (v := .slice p.A2 p.n2 p.c2) rfl (by kernel_rfl) (by kernel_rfl) (by kernel_rfl) (fun _ _ _ h => h) (.inl ⟨by rfl, fun W1 h1 => by (have x1 : W1.cell? ⟨wr.heap.size + 1, 1, none⟩ = some (.slice p.A2 p.n2 p.c2) := (by rw [cell_of_row _ _ 1 _ 131 (0, 0) (blk_below G5.out.2.1 h1)]; rfl)); go_simp⟩) hW ?_
                try simp only [Act.put, List.setIfInBounds_toArray, List.set_cons_zero, List.set_cons_succ]
                refine wpAnyH_take (i := 7) (oi := ⟨some 44, _, _, _, _, _⟩) (v := .int .i64 (p.n2 : Int)) rfl (by kernel_rfl) (by kernel_rfl) (by kernel_rfl) (fun _ _ _ h => h) (.inl ⟨by rfl, fun W1 h1 => by go_simp⟩) hW ?_
                try simp only [Act.put, List.setIfInBounds_toArray, List.set_cons_zero, List.set_cons_succ]
                refine wpAnyH_take (i := 8) (oi := ⟨some 45, _, _, _, _, _⟩) (v := .bool false) rfl (by kernel_rfl) (by kernel_rfl) (by kernel_rfl) (fun _ _ _ h => h) (.inl ⟨by rfl, fun W1 h1 => by go_simp⟩) hW ?_
                try simp only [Act.put, List.setIfInBounds_toArray, List.set_cons_zero, List.set_cons_succ]
                refine wpAnyH_take (i := 9) (oi := ⟨some 46, _, _, _, _, _⟩) (v := .bool false) rfl (by kernel_rfl) (by kernel_rfl) (by kernel_rfl) (fun _ _ _ h => h) (.inl ⟨by rfl, fun W1 h1 => by go_simp⟩) hW ?_
                try simp only [Act.put, List.setIfInBounds_toArray, List.set_cons_zero, List.set_cons_succ]
                refine wpAnyH_take (i := 10) (oi := ⟨some 47, _, _, _, _, _⟩) (v := .bool false) rfl (by kernel_rfl) (by kernel_rfl) (by kernel_rfl) (fun _ _ _ h => h) (.inl ⟨by rfl, fun W1 h1 => by go_simp⟩) hW ?_
                try simp only [Act.put, List.setIfInBounds_toArray, List.set_cons_zero, List.set_cons_succ]
                refine wpAnyH_take (i := 11) (oi := ⟨some 48, _, _, _, _, _⟩) (v := .pointer (some ⟨wr.heap.size + 1, 2, none⟩)) rfl (by kernel_rfl) (by kernel_rfl) (by kernel_rfl) (fun _ _ _ h => h) (.inl ⟨by rfl, fun W1 h1 => by go_simp⟩) hW ?_
                try simp only [Act.put, List.setIfInBounds_toArray, List.set_cons_zero, List.set_cons_succ]
                refine wpAnyH_take (i := 12) (oi := ⟨some 49, _, _, _, _, _⟩) (v := .slice p.A3 p.n3 p.c3) rfl (by kernel_rfl) (by kernel_rfl) (by kernel_rfl) (fun _ _ _ h => h) (.inl ⟨by rfl, fun W1 h1 => by (have x1 : W1.cell? ⟨wr.heap.size + 1, 2, none⟩ = some (.slice p.A3 p.n3 p.c3) := (by rw [cell_of_row _ _ 2 _ 131 (0, 0) (blk_below G5.out.2.1 h1)]; rfl)); go_simp⟩) hW ?_
                try simp only [Act.put, List.setIfInBounds_toArray, List.set_cons_zero, List.set_cons_succ]
                refine wpAnyH_take (i := 13) (oi := ⟨some 50, _, _, _, _, _⟩) (v := .int .i64 (p.n3 : Int)) rfl (by kernel_rfl) (by kernel_rfl) (by kernel_rfl) (fun _ _ _ h => h) (.inl ⟨by rfl, fun W1 h1 => by go_simp⟩) hW ?_
                try simp only [Act.put, List.setIfInBounds_toArray, List.set_cons_zero, List.set_cons_succ]
                refine wpAnyH_take (i := 14) (oi := ⟨some 51, _, _, _, _, _⟩) (v := .bool false) rfl (by kernel_rfl) (by kernel_rfl) (by kernel_rfl) (fun _ _ _ h => h) (.inl ⟨by rfl, fun W1 h1 => by go_simp⟩) hW ?_
                try simp only [Act.put, List.setIfInBounds_toArray, List.set_cons_zero, List.set_cons_succ]
                refine wpAnyH_take (i := 15) (oi := ⟨some 52, _, _, _, _, _⟩) (v := .bool false) rfl (by kernel_rfl) (by kernel_rfl) (by kernel_rfl) (fun _ _ _ h => h) (.inl ⟨by rfl, fun W1 h1 => by go_simp⟩) hW ?_
                try simp only [Act.put, List.setIfInBounds_toArray, List.set_cons_zero, List.set_cons_succ]
                refine wpAnyH_take (i := 16) (oi := ⟨some 53, _, _, _, _, _⟩) (v := .bool false) rfl (by kernel_rfl) (by kernel_rfl) (by kernel_rfl) (fun _ _ _ h => h) (.inl ⟨by rfl, fun W1 h1 => by go_simp⟩) hW ?_
                try simp only [Act.put, List.setIfInBounds_toArray, List.set_cons_zero, List.set_cons_succ]
                refine wpAnyH_take (i := 17) (oi := ⟨some 54, _, _, _, _, _⟩) (v := .int .i64 (((m + 1 : Nat) : Int) : Int)) rfl (by kernel_rfl) (by kernel_rfl) (by kernel_rfl) (fun _ _ _ h => h) (.inl ⟨by rfl, fun W1 h1 => by go_simp⟩) hW ?_
                try simp only [Act.put, List.setIfInBounds_toArray, List.set_cons_zero, List.set_cons_succ]
                refine wpAnyH_take (i := 18) (oi := ⟨some 55, _, _, _, _, _⟩) (v := .bool true) rfl (by kernel_rfl) (by kernel_rfl) (by kernel_rfl) (fun _ _ _ h => h) (.inl ⟨by rfl, fun W1 h1 => by go_simp⟩) hW ?_
                try simp only [Act.put, List.setIfInBounds_toArray, List.set_cons_zero, List.set_cons_succ]
                refine wpAnyH_take (i := 19) (oi := ⟨some 56, _, _, _, _, _⟩) (v := .bool true) rfl (by kernel_rfl) (by kernel_rfl) (by kernel_rfl) (fun _ _ _ h => h) (.inl ⟨by rfl, fun W1 h1 => by go_simp⟩) hW ?_
                try simp only [Act.put, List.setIfInBounds_toArray, List.set_cons_zero, List.set_cons_succ]
                refine wpAnyH_take (i := 20) (oi := ⟨some 57, _, _, _, _, _⟩) (v := .pointer (some ⟨w.heap.size, 2, none⟩)) rfl (by kernel_rfl) (by kernel_rfl) (by kernel_rfl) (fun _ _ _ h => h) (.inl ⟨by rfl, fun W1 h1 => by go_simp⟩) hW ?_
                try simp only [Act.put, List.setIfInBounds_toArray, List.set_cons_zero, List.set_cons_succ]
                refine wpAnyH_take (i := 21) (oi := ⟨some 58, _, _, _, _, _⟩) (v := .slice (some ⟨b, off, none⟩) n c) rfl (by kernel_rfl) (by kernel_rfl) (by kernel_rfl) (fun _ _ _ h => h) (.inl ⟨by rfl, fun W1 h1 => by (have x1 : W1.cell? ⟨w.heap.size, 2, none⟩ = some (.slice (some ⟨b, off, none⟩) n c) := (by rw [cell_of_row _ _ 2 _ 79 (0, 0) (blk_below G5.out.1 h1)]; rfl)); go_simp⟩) hW ?_
                try simp only [Act.put, List.setIfInBounds_toArray, List.set_cons_zero, List.set_cons_succ]
                refine wpAnyH_take (i := 22) (oi := ⟨some 59, _, _, _, _, _⟩) (v := .int .i64 (((m + 1 : Nat) : Int) : Int)) rfl (by kernel_rfl) (by kernel_rfl) (by kernel_rfl) (fun _ _ _ h => h) (.inl ⟨by rfl, fun W1 h1 => by go_simp⟩) hW ?_
                try simp only [Act.put, List.setIfInBounds_toArray, List.set_cons_zero, List.set_cons_succ]
                refine wpAnyH_take (i := 23) (oi := ⟨some 60, _, _, _, _, _⟩) (v := .int .i64 (m : Int)) rfl (by kernel_rfl) (by kernel_rfl) (by kernel_rfl) (fun _ _ _ h => h) (.inl ⟨by rfl, fun W1 h1 => by go_simp⟩) hW ?_
                try simp only [Act.put, List.setIfInBounds_toArray, List.set_cons_zero, List.set_cons_succ]
                refine wpAnyH_take (i := 24) (oi := ⟨some 61, _, _, _, _, _⟩) (v := .pointer (some ⟨b, off + m * 4, none⟩)) rfl (by kernel_rfl) (by kernel_rfl) (by kernel_rfl) (fun _ _ _ h => h) (.inl ⟨by rfl, fun W1 h1 => by go_simp⟩) hW ?_
                try simp only [Act.put, List.setIfInBounds_toArray, List.set_cons_zero, List.set_cons_succ]
                refine wpAnyH_take (i := 25) (oi := ⟨some 62, _, _, _, _, _⟩) (v := .pointer (some ⟨b, off + m * 4, none⟩)) rfl (by kernel_rfl) (by kernel_rfl) (by kernel_rfl) (fun _ _ _ h => h) (.inl ⟨by rfl, fun W1 h1 => by go_simp⟩) hW ?_
                try simp only [Act.put, List.setIfInBounds_toArray, List.set_cons_zero, List.set_cons_succ]
                refine wpAnyH_take (i := 26) (oi := ⟨some 63, _, _, _, _, _⟩) (v := .pointer (some ⟨b, off + m * 4, none⟩)) rfl (by kernel_rfl) (by kernel_rfl) (by kernel_rfl) (fun _ _ _ h => h) (.inl ⟨by rfl, fun W1 h1 => by go_simp⟩) hW ?_
                try simp only [Act.put, List.setIfInBounds_toArray, List.set_cons_zero, List.set_cons_succ]
                refine wpAnyH_take (i := 27) (oi := ⟨some 64, _, _, _, _, _⟩) (v := .slice q.A1 q.n1 q.c1) rfl (by kernel_rfl) (by kernel_rfl) (by kernel_rfl) (fun _ _ _ h => h) (.inl ⟨by rfl, fun W1 h1 => by (have x1 : W1.cell? ⟨b, off + m * 4, none⟩ = some (.slice q.A1 q.n1 q.c1) := (rangeAt_below HXQ.out (below_then HBb.out HBb.out.size h1) hb) 0 _ rfl); go_simp⟩) hW ?_
                try simp only [Act.put, List.setIfInBounds_toArray, List.set_cons_zero, List.set_cons_succ]
                refine wpAnyH_take (i := 28) (oi := ⟨some 65, _, _, _, _, _⟩) (v := .string z.key) rfl (by kernel_rfl) (by kernel_rfl) (by kernel_rfl) (fun _ _ _ h => h) (.inl ⟨by rfl, fun W1 h1 => by (have x1 := Kd.C_string (c := q.c1) (P := Try.prog) Try.underlying31 Try.underlying5 Try.underlying9 (Kd.C_below HCQ.out.k (below_then HBb.out HBb.out.size h1))); rw [str_bytes] at x1; go_simp⟩) hW ?_
                try simp only [Act.put, List.setIfInBounds_toArray, List.set_cons_zero, List.set_cons_succ]
                refine wpAnyH_take (i := 29) (oi := ⟨some 66, _, _, _, _, _⟩) (v := .pointer (some ⟨wr.heap.size + 1, 0, none⟩)) rfl (by kernel_rfl) (by kernel_rfl) (by kernel_rfl) (fun _ _ _ h => h) (.inl ⟨by rfl, fun W1 h1 => by go_simp⟩) hW ?_
                try simp only [Act.put, List.setIfInBounds_toArray, List.set_cons_zero, List.set_cons_succ]
                refine wpAnyH_take (i := 30) (oi := ⟨some 67, _, _, _, _, _⟩) (v := .slice p.A1 p.n1 p.c1) rfl (by kernel_rfl) (by kernel_rfl) (by kernel_rfl) (fun _ _ _ h => h) (.inl ⟨by rfl, fun W1 h1 => by (have x1 : W1.cell? ⟨wr.heap.size + 1, 0, none⟩ = some (.slice p.A1 p.n1 p.c1) := (by rw [cell_of_row _ _ 0 _ 131 (0, 0) (blk_below G5.out.2.1 h1)]; rfl)); go_simp⟩) hW ?_
                try simp only [Act.put, List.setIfInBounds_toArray, List.set_cons_zero, List.set_cons_succ]
                refine wpAnyH_take (i := 31) (oi := ⟨some 68, _, _, _, _, _⟩) (v := .string y.key) rfl (by kernel_rfl) (by kernel_rfl) (by kernel_rfl) (fun _ _ _ h => h) (.inl ⟨by rfl, fun W1 h1 => by (have x1 := Kd.C_string (c := p.c1) (P := Try.prog) Try.underlying31 Try.underlying5 Try.underlying9 (Kd.C_below HCA.out.k (below_then HBb.out HBb.out.size h1))); rw [str_bytes] at x1; go_simp⟩) hW ?_
                try simp only [Act.put, List.setIfInBounds_toArray, List.set_cons_zero, List.set_cons_succ]
                refine wpAnyH_take (i := 32) (oi := ⟨some 69, _, _, _, _, _⟩) (v := .bool true) rfl (by kernel_rfl) (by kernel_rfl) (by kernel_rfl) (fun _ _ _ h => h) (.inl ⟨by rfl, fun W1 h1 => by (have x1 := hgq W1; go_simp)⟩) hW ?_
                try simp only [Act.put, List.setIfInBounds_toArray, List.set_cons_zero, List.set_cons_succ]
                refine wpAnyH_take (i := 33) (oi := ⟨some 70, _, _, _, _, _⟩) (v := .bool true) rfl (by kernel_rfl) (by kernel_rfl) (by kernel_rfl) (fun _ _ _ h => h) (.inl ⟨by rfl, fun W1 h1 => by go_simp⟩) hW ?_
                try simp only [Act.put, List.setIfInBounds_toArray, List.set_cons_zero, List.set_cons_succ]
                refine wpAnyH_take (i := 34) (oi := ⟨some 71, _, _, _, _, _⟩) (v := .bool true) rfl (by kernel_rfl) (by kernel_rfl) (by kernel_rfl) (fun _ _ _ h => h) (.inl ⟨by rfl, fun W1 h1 => by go_simp⟩) hW ?_
                try simp only [Act.put, List.setIfInBounds_toArray, List.set_cons_zero, List.set_cons_succ]
                refine wpAnyH_done (by kernel_rfl) ?_ _
                have HF := Aside0.mk (rightB_false (x := ⟨base, snap, l⟩) (fun h => by have := (h.all _ _ HYL.out).up z.key (by simp [HZL.out]); unfold geB at this; rw [hge] at this; cases this))
                have HWF := Aside0.mk (below_then HBb.out HBb.out.size hS0)
                clear hS0 hW
                go_wp2
                rw [HP.out, HF.out]
                exact ⟨rfl, HWF.out⟩
              | true =>
                have hgq : ∀ W : World, (binOp .geq 9 (.string z.key) (.string y.key)).run Try.prog W = .ok (.bool false) W := fun W => by simp [binOp, Op.stringOp, hge]
                refine wp_region_held_drew (S := fun w' => Below Wb.heap.size Wb w') (by kernel_rfl) hS0 (fun hW => ?_)
                refine wpAnyH_take (i := 0) (oi := ⟨some 37, _, _, _, _, _⟩) (v := .pointer (some ⟨wr.heap.size + 1, 0, none⟩)) rfl (by kernel_rfl) (by kernel_rfl) (by kernel_rfl) (fun _ _ _ h => h) (.inl ⟨by rfl, fun W1 h1 => by go_simp⟩) hW ?_
                try simp only [Act.put, List.setIfInBounds_toArray, List.set_cons_zero, List.set_cons_succ]
                refine wpAnyH_take (i := 1) (oi := ⟨some 38, _, _, _, _, _⟩) (v := .slice p.A1 p.n1 p.c1) rfl (by kernel_rfl) (by kernel_rfl) (by kernel_rfl) (fun _ _ _ h => h) (.inl ⟨by rfl, fun W1 h1 => by (have x1 : W1.cell? ⟨wr.heap.size + 1, 0, none⟩ = some (.slice p.A1 p.n1 p.c1) := (by rw [cell_of_row _ _ 0 _ 131 (0, 0) (blk_below G5.out.2.1 h1)]; rfl)); go_simp⟩) hW ?_
                try simp only [Act.put, List.setIfInBounds_toArray, List.set_cons_zero, List.set_cons_succ]
                refine wpAnyH_take (i := 2) (oi := ⟨some 39, _, _, _, _, _⟩) (v := .int .i64 (p.n1 : Int)) rfl (by kernel_rfl) (by kernel_rfl) (by kernel_rfl) (fun _ _ _ h => h) (.inl ⟨by rfl, fun W1 h1 => by go_simp⟩) hW ?_
                try simp only [Act.put, List.setIfInBounds_toArray, List.set_cons_zero, List.set_cons_succ]
                refine wpAnyH_take (i := 3) (oi := ⟨some 40, _, _, _, _, _⟩) (v := .bool false) rfl (by kernel_rfl) (by kernel_rfl) (by kernel_rfl) (fun _ _ _ h => h) (.inl ⟨by rfl, fun W1 h1 => by go_simp⟩) hW ?_
                try simp only [Act.put, List.setIfInBounds_toArray, List.set_cons_zero, List.set_cons_succ]
                refine wpAnyH_take (i := 4) (oi := ⟨some 41, _, _, _, _, _⟩) (v := .bool false) rfl (by kernel_rfl) (by kernel_rfl) (by kernel_rfl) (fun _ _ _ h => h) (.inl ⟨by rfl, fun W1 h1 => by go_simp⟩) hW ?_
                try simp only [Act.put, List.setIfInBounds_toArray, List.set_cons_zero, List.set_cons_succ]
                refine wpAnyH_take (i := 5) (oi := ⟨some 42, _, _, _, _, _⟩) (v := .pointer (some ⟨wr.heap.size + 1, 1, none⟩)) rfl (by kernel_rfl) (by kernel_rfl) (by kernel_rfl) (fun _ _ _ h => h) (.inl ⟨by rfl, fun W1 h1 => by go_simp⟩) hW ?_
                try simp only [Act.put, List.setIfInBounds_toArray, List.set_cons_zero, List.set_cons_succ]
                refine wpAnyH_take (i := 6) (oi := ⟨some 43, _, _, _, _, _⟩) (v := .slice p.A2 p.n2 p.c2) rfl (by kernel_rfl) (by kernel_rfl) (by kernel_rfl) (fun _ _ _ h => h) (.inl ⟨by rfl, fun W1 h1 => by (have x1 : W1.cell? ⟨wr.heap.size + 1, 1, none⟩ = some (.slice p.A2 p.n2 p.c2) := (by rw [cell_of_row _ _ 1 _ 131 (0, 0) (blk_below G5.out.2.1 h1)]; rfl)); go_simp⟩) hW ?_
                try simp only [Act.put, List.setIfInBounds_toArray, List.set_cons_zero, List.set_cons_succ]
                refine wpAnyH_take (i := 7) (oi := ⟨some 44, _, _, _, _, _⟩) (v := .int .i64 (p.n2 : Int)) rfl (by kernel_rfl) (by kernel_rfl) (by kernel_rfl) (fun _ _ _ h => h) (.inl ⟨by rfl, fun W1 h1 => by go_simp⟩) hW ?_
                try simp only [Act.put, List.setIfInBounds_toArray, List.set_cons_zero, List.set_cons_succ]
                refine wpAnyH_take (i := 8) (oi := ⟨some 45, _, _, _, _, _⟩) (v := .bool false) rfl (by kernel_rfl) (by kernel_rfl) (by kernel_rfl) (fun _ _ _ h => h) (.inl ⟨by rfl, fun W1 h1 => by go_simp⟩) hW ?_
                try simp only [Act.put, List.setIfInBounds_toArray, List.set_cons_zero, List.set_cons_succ]
                refine wpAnyH_take (i := 9) (oi := ⟨some 46, _, _, _, _, _⟩) (v := .bool false) rfl (by kernel_rfl) (by kernel_rfl) (by kernel_rfl) (fun _ _ _ h => h) (.inl ⟨by rfl, fun W1 h1 => by go_simp⟩) hW ?_
                try simp only [Act.put, List.setIfInBounds_toArray, List.set_cons_zero, List.set_cons_succ]
                refine wpAnyH_take (i := 10) (oi := ⟨some 47, _, _, _, _, _⟩) (v := .bool false) rfl (by kernel_rfl) (by kernel_rfl) (by kernel_rfl) (fun _ _ _ h => h) (.inl ⟨by rfl, fun W1 h1 => by go_simp⟩) hW ?_
                try simp only [Act.put, List.setIfInBounds_toArray, List.set_cons_zero, List.set_cons_succ]
                refine wpAnyH_take (i := 11) (oi := ⟨some 48, _, _, _, _, _⟩) (v := .pointer (some ⟨wr.heap.size + 1, 2, none⟩)) rfl (by kernel_rfl) (by kernel_rfl) (by kernel_rfl) (fun _ _ _ h => h) (.inl ⟨by rfl, fun W1 h1 => by go_simp⟩) hW ?_
                try simp only [Act.put, List.setIfInBounds_toArray, List.set_cons_zero, List.set_cons_succ]
                refine wpAnyH_take (i := 12) (oi := ⟨some 49, _, _, _, _, _⟩) (v := .slice p.A3 p.n3 p.c3) rfl (by kernel_rfl) (by kernel_rfl) (by kernel_rfl) (fun _ _ _ h => h) (.inl ⟨by rfl, fun W1 h1 => by (have x1 : W1.cell? ⟨wr.heap.size + 1, 2, none⟩ = some (.slice p.A3 p.n3 p.c3) := (by rw [cell_of_row _ _ 2 _ 131 (0, 0) (blk_below G5.out.2.1 h1)]; rfl)); go_simp⟩) hW ?_
                try simp only [Act.put, List.setIfInBounds_toArray, List.set_cons_zero, List.set_cons_succ]
                refine wpAnyH_take (i := 13) (oi := ⟨some 50, _, _, _, _, _⟩) (v := .int .i64 (p.n3 : Int)) rfl (by kernel_rfl) (by kernel_rfl) (by kernel_rfl) (fun _ _ _ h => h) (.inl ⟨by rfl, fun W1 h1 => by go_simp⟩) hW ?_
                try simp only [Act.put, List.setIfInBounds_toArray, List.set_cons_zero, List.set_cons_succ]
                refine wpAnyH_take (i := 14) (oi := ⟨some 51, _, _, _, _, _⟩) (v := .bool false) rfl (by kernel_rfl) (by kernel_rfl) (by kernel_rfl) (fun _ _ _ h => h) (.inl ⟨by rfl, fun W1 h1 => by go_simp⟩) hW ?_
                try simp only [Act.put, List.setIfInBounds_toArray, List.set_cons_zero, List.set_cons_succ]
                refine wpAnyH_take (i := 15) (oi := ⟨some 52, _, _, _, _, _⟩) (v := .bool false) rfl (by kernel_rfl) (by kernel_rfl) (by kernel_rfl) (fun _ _ _ h => h) (.inl ⟨by rfl, fun W1 h1 => by go_simp⟩) hW ?_
                try simp only [Act.put, List.setIfInBounds_toArray, List.set_cons_zero, List.set_cons_succ]
                refine wpAnyH_take (i := 16) (oi := ⟨some 53, _, _, _, _, _⟩) (v := .bool false) rfl (by kernel_rfl) (by kernel_rfl) (by kernel_rfl) (fun _ _ _ h => h) (.inl ⟨by rfl, fun W1 h1 => by go_simp⟩) hW ?_
                try simp only [Act.put, List.setIfInBounds_toArray, List.set_cons_zero, List.set_cons_succ]
                refine wpAnyH_take (i := 17) (oi := ⟨some 54, _, _, _, _, _⟩) (v := .int .i64 (((m + 1 : Nat) : Int) : Int)) rfl (by kernel_rfl) (by kernel_rfl) (by kernel_rfl) (fun _ _ _ h => h) (.inl ⟨by rfl, fun W1 h1 => by go_simp⟩) hW ?_
                try simp only [Act.put, List.setIfInBounds_toArray, List.set_cons_zero, List.set_cons_succ]
                refine wpAnyH_take (i := 18) (oi := ⟨some 55, _, _, _, _, _⟩) (v := .bool true) rfl (by kernel_rfl) (by kernel_rfl) (by kernel_rfl) (fun _ _ _ h => h) (.inl ⟨by rfl, fun W1 h1 => by go_simp⟩) hW ?_
                try simp only [Act.put, List.setIfInBounds_toArray, List.set_cons_zero, List.set_cons_succ]
                refine wpAnyH_take (i := 19) (oi := ⟨some 56, _, _, _, _, _⟩) (v := .bool true) rfl (by kernel_rfl) (by kernel_rfl) (by kernel_rfl) (fun _ _ _ h => h) (.inl ⟨by rfl, fun W1 h1 => by go_simp⟩) hW ?_
                try simp only [Act.put, List.setIfInBounds_toArray, List.set_cons_zero, List.set_cons_succ]
                refine wpAnyH_take (i := 20) (oi := ⟨some 57, _, _, _, _, _⟩) (v := .pointer (some ⟨w.heap.size, 2, none⟩)) rfl (by kernel_rfl) (by kernel_rfl) (by kernel_rfl) (fun _ _ _ h => h) (.inl ⟨by rfl, fun W1 h1 => by go_simp⟩) hW ?_
                try simp only [Act.put, List.setIfInBounds_toArray, List.set_cons_zero, List.set_cons_succ]
                refine wpAnyH_take (i := 21) (oi := ⟨some 58, _, _, _, _, _⟩) (v := .slice (some ⟨b, off, none⟩) n c) rfl (by kernel_rfl) (by kernel_rfl) (by kernel_rfl) (fun _ _ _ h => h) (.inl ⟨by rfl, fun W1 h1 => by (have x1 : W1.cell? ⟨w.heap.size, 2, none⟩ = some (.slice (some ⟨b, off, none⟩) n c) := (by rw [cell_of_row _ _ 2 _ 79 (0, 0) (blk_below G5.out.1 h1)]; rfl)); go_simp⟩) hW ?_
                try simp only [Act.put, List.setIfInBounds_toArray, List.set_cons_zero, List.set_cons_succ]
                refine wpAnyH_take (i := 22) (oi := ⟨some 59, _, _, _, _, _⟩) (v := .int .i64 (((m + 1 : Nat) : Int) : Int)) rfl (by kernel_rfl) (by kernel_rfl) (by kernel_rfl) (fun _ _ _ h => h) (.inl ⟨by rfl, fun W1 h1 => by go_simp⟩) hW ?_
                try simp only [Act.put, List.setIfInBounds_toArray, List.set_cons_zero, List.set_cons_succ]
                refine wpAnyH_take (i := 23) (oi := ⟨some 60, _, _, _, _, _⟩) (v := .int .i64 (m : Int)) rfl (by kernel_rfl) (by kernel_rfl) (by kernel_rfl) (fun _ _ _ h => h) (.inl ⟨by rfl, fun W1 h1 => by go_simp⟩) hW ?_
                try simp only [Act.put, List.setIfInBounds_toArray, List.set_cons_zero, List.set_cons_succ]
                refine wpAnyH_take (i := 24) (oi := ⟨some 61, _, _, _, _, _⟩) (v := .pointer (some ⟨b, off + m * 4, none⟩)) rfl (by kernel_rfl) (by kernel_rfl) (by kernel_rfl) (fun _ _ _ h => h) (.inl ⟨by rfl, fun W1 h1 => by go_simp⟩) hW ?_
                try simp only [Act.put, List.setIfInBounds_toArray, List.set_cons_zero, List.set_cons_succ]
                refine wpAnyH_take (i := 25) (oi := ⟨some 62, _, _, _, _, _⟩) (v := .pointer (some ⟨b, off + m * 4, none⟩)) rfl (by kernel_rfl) (by kernel_rfl) (by kernel_rfl) (fun _ _ _ h => h) (.inl ⟨by rfl, fun W1 h1 => by go_simp⟩) hW ?_
                try simp only [Act.put, List.setIfInBounds_toArray, List.set_cons_zero, List.set_cons_succ]
                refine wpAnyH_take (i := 26) (oi := ⟨some 63, _, _, _, _, _⟩) (v := .pointer (some ⟨b, off + m * 4, none⟩)) rfl (by kernel_rfl) (by kernel_rfl) (by kernel_rfl) (fun _ _ _ h => h) (.inl ⟨by rfl, fun W1 h1 => by go_simp⟩) hW ?_
                try simp only [Act.put, List.setIfInBounds_toArray, List.set_cons_zero, List.set_cons_succ]
                refine wpAnyH_take (i := 27) (oi := ⟨some 64, _, _, _, _, _⟩) (v := .slice q.A1 q.n1 q.c1) rfl (by kernel_rfl) (by kernel_rfl) (by kernel_rfl) (fun _ _ _ h => h) (.inl ⟨by rfl, fun W1 h1 => by (have x1 : W1.cell? ⟨b, off + m * 4, none⟩ = some (.slice q.A1 q.n1 q.c1) := (rangeAt_below HXQ.out (below_then HBb.out HBb.out.size h1) hb) 0 _ rfl); go_simp⟩) hW ?_
                try simp only [Act.put, List.setIfInBounds_toArray, List.set_cons_zero, List.set_cons_succ]
                refine wpAnyH_take (i := 28) (oi := ⟨some 65, _, _, _, _, _⟩) (v := .string z.key) rfl (by kernel_rfl) (by kernel_rfl) (by kernel_rfl) (fun _ _ _ h => h) (.inl ⟨by rfl, fun W1 h1 => by (have x1 := Kd.C_string (c := q.c1) (P := Try.prog) Try.underlying31 Try.underlying5 Try.underlying9 (Kd.C_below HCQ.out.k (below_then HBb.out HBb.out.size h1))); rw [str_bytes] at x1; go_simp⟩) hW ?_
                try simp only [Act.put, List.setIfInBounds_toArray, List.set_cons_zero, List.set_cons_succ]
                refine wpAnyH_take (i := 29) (oi := ⟨some 66, _, _, _, _, _⟩) (v := .pointer (some ⟨wr.heap.size + 1, 0, none⟩)) rfl (by kernel_rfl) (by kernel_rfl) (by kernel_rfl) (fun _ _ _ h => h) (.inl ⟨by rfl, fun W1 h1 => by go_simp⟩) hW ?_
                try simp only [Act.put, List.setIfInBounds_toArray, List.set_cons_zero, List.set_cons_succ]
                refine wpAnyH_take (i := 30) (oi := ⟨some 67, _, _, _, _, _⟩) (v := .slice p.A1 p.n1 p.c1) rfl (by kernel_rfl) (by kernel_rfl) (by kernel_rfl) (fun _ _ _ h => h) (.inl ⟨by rfl, fun W1 h1 => by (have x1 : W1.cell? ⟨wr.heap.size + 1, 0, none⟩ = some (.slice p.A1 p.n1 p.c1) := (by rw [cell_of_row _ _ 0 _ 131 (0, 0) (blk_below G5.out.2.1 h1)]; rfl)); go_simp⟩) hW ?_
                try simp only [Act.put, List.setIfInBounds_toArray, List.set_cons_zero, List.set_cons_succ]
                refine wpAnyH_take (i := 31) (oi := ⟨some 68, _, _, _, _, _⟩) (v := .string y.key) rfl (by kernel_rfl) (by kernel_rfl) (by kernel_rfl) (fun _ _ _ h => h) (.inl ⟨by rfl, fun W1 h1 => by (have x1 := Kd.C_string (c := p.c1) (P := Try.prog) Try.underlying31 Try.underlying5 Try.underlying9 (Kd.C_below HCA.out.k (below_then HBb.out HBb.out.size h1))); rw [str_bytes] at x1; go_simp⟩) hW ?_
                try simp only [Act.put, List.setIfInBounds_toArray, List.set_cons_zero, List.set_cons_succ]
                refine wpAnyH_take (i := 32) (oi := ⟨some 69, _, _, _, _, _⟩) (v := .bool false) rfl (by kernel_rfl) (by kernel_rfl) (by kernel_rfl) (fun _ _ _ h => h) (.inl ⟨by rfl, fun W1 h1 => by (have x1 := hgq W1; go_simp)⟩) hW ?_
                try simp only [Act.put, List.setIfInBounds_toArray, List.set_cons_zero, List.set_cons_succ]
                refine wpAnyH_take (i := 33) (oi := ⟨some 70, _, _, _, _, _⟩) (v := .bool false) rfl (by kernel_rfl) (by kernel_rfl) (by kernel_rfl) (fun _ _ _ h => h) (.inl ⟨by rfl, fun W1 h1 => by go_simp⟩) hW ?_
                try simp only [Act.put, List.setIfInBounds_toArray, List.set_cons_zero, List.set_cons_succ]
                refine wpAnyH_take (i := 34) (oi := ⟨some 71, _, _, _, _, _⟩) (v := .bool false) rfl (by kernel_rfl) (by kernel_rfl) (by kernel_rfl) (fun _ _ _ h => h) (.inl ⟨by rfl, fun W1 h1 => by go_simp⟩) hW ?_
                try simp only [Act.put, List.setIfInBounds_toArray, List.set_cons_zero, List.set_cons_succ]
                refine wpAnyH_done (by kernel_rfl) ?_ _
                have y4 : Wb.drew.cell? ⟨wr.heap.size, 3, none⟩ = some (.bool p.g) := by rw [cell_of_row _ _ 3 _ 133 (0, 0) (blk_below G5.out.2.2 hS0)]; rfl
                have y1 : Wb.drew.cell? ⟨w.heap.size, 0, none⟩ = some (.string base) := by rw [cell_of_row _ _ 0 _ 79 (0, 0) (blk_below G5.out.1 hS0)]; rfl
                have y5 : Wb.drew.cell? ⟨wr.heap.size + 1, 1, none⟩ = some (.slice p.A2 p.n2 p.c2) := by rw [cell_of_row _ _ 1 _ 131 (0, 0) (blk_below G5.out.2.1 hS0)]; rfl
                have y6 : Wb.drew.cell? ⟨wr.heap.size + 1, 2, none⟩ = some (.slice p.A3 p.n3 p.c3) := by rw [cell_of_row _ _ 2 _ 131 (0, 0) (blk_below G5.out.2.1 hS0)]; rfl
                have HWF := Aside0.mk (below_then HBb.out HBb.out.size hS0)
                have HW0F := Aside0.mk (below_then HB0b.out HB0b.out.size hS0)
                clear hS0 hW
                generalize hpg : p.g = pg at *
                cases pg with
                | false =>
                  have HO := Aside0.mk (upTo_succ (x := ⟨base, snap, l⟩) HU.out HYL.out ⟨by have := HL.out.1; omega, by have := HL.out.2.1; omega, by have := HL.out.2.2; omega, fun k hk => by (simp [HZL.out] at hk; subst hk; unfold geB; rw [hge]; rfl), fun h => by rw [← HPG.out] at h; cases h⟩)
                  go_wp2
                  go_roundw
                  case rel => exact ⟨(m + 1) + 1, by go_num, by omega, HO, HW0F⟩
                  case measure => simp [intOf]; omega
                | true =>
                  by_cases hnd : 0 < p.n2 + p.n3
                  · have HF := Aside0.mk (rightB_false (x := ⟨base, snap, l⟩) (fun h => by have := (h.all _ _ HYL.out).gone HPG.out.symm; have := HL.out.2.1; have := HL.out.2.2; omega))
                    have dn2 : decide ((0 : Int) < (p.n2 : Int) + (p.n3 : Int)) = true := decide_eq_true (by omega)
                    go_wp2
                    rw [HP.out, HF.out]
                    exact ⟨rfl, HWF.out⟩
                  · have HO := Aside0.mk (upTo_succ (x := ⟨base, snap, l⟩) HU.out HYL.out ⟨by have := HL.out.1; omega, by have := HL.out.2.1; omega, by have := HL.out.2.2; omega, fun k hk => by (simp [HZL.out] at hk; subst hk; unfold geB; rw [hge]; rfl), fun h => ⟨hb0, by have := HL.out.2.1; omega, by have := HL.out.2.2; omega⟩⟩)
                    have dn2 : decide ((0 : Int) < (p.n2 : Int) + (p.n3 : Int)) = false := decide_eq_false (by omega)
                    go_wp2
                    go_roundw
                    case rel => exact ⟨(m + 1) + 1, by go_num, by omega, HO, HW0F⟩
                    case measure => simp [intOf]; omega
          · have hjn : j = n := by omega
            have HF := Aside0.mk (rightB_true (x := ⟨base, snap, l⟩) ⟨HSN.out, hbs, by show l.length ≤ 65536; have := H.out.len; omega, fun i c hc => HU.out i c (by have h1 := H.out.len; have h2 : i < l.length := (List.getElem?_eq_some_iff.1 hc).1; omega) hc⟩)
            clear hjn
            go_wp2
            rw [HP.out, HF.out]
            exact ⟨rfl, HB.out⟩
end Go.Proofs.Ytfefpbnhpncmlaa.StmI
namespace Go.Proofs.Ytfefpbnhpncmlaa.StmJ
open Go.RowKit Go.Proofs.Ytfefpbnhpncmlaa.EntL Go.Proofs.Ytfefpbnhpncmlaa.EntB Go.Proofs.Ytfefpbnhpncmlaa.EntC Go.Proofs.Ytfefpbnhpncmlaa.EntD Go.Proofs.Ytfefpbnhpncmlaa.EntE Go.Proofs.Ytfefpbnhpncmlaa.EntF Go.Proofs.Ytfefpbnhpncmlaa.CatR Go.Proofs.Ytfefpbnhpncmlaa.CatT Go.Proofs.Ytfefpbnhpncmlaa.CatU Go.Proofs.Ytfefpbnhpncmlaa.CatK Go.Proofs.Ytfefpbnhpncmlaa.CatS Go.Proofs.Ytfefpbnhpncmlaa.CatY Go.Proofs.Ytfefpbnhpncmlaa.RefG Go.Proofs.Ytfefpbnhpncmlaa.PtrB Go.Proofs.Ytfefpbnhpncmlaa.PtrG Go.Proofs.Ytfefpbnhpncmlaa.Agg Go.Proofs.Ytfefpbnhpncmlaa.B8 Go.Proofs.Ytfefpbnhpncmlaa.CodL Go.Proofs.Ytfefpbnhpncmlaa.CodA Go.Proofs.Ytfefpbnhpncmlaa.CodB Go.Proofs.Ytfefpbnhpncmlaa.CatL Go.Proofs.Ytfefpbnhpncmlaa.PtrA Go.Proofs.Ytfefpbnhpncmlaa.PtrE Go.Proofs.Ytfefpbnhpncmlaa.PtrF Go.Proofs.Ytfefpbnhpncmlaa.PBaseSigns Go.Proofs.YtfefpbnhpncmlaaW.PrintWords Go.Proofs.YtfefpbnhpncmlaaW.PrintLast Go.Proofs.YtfefpbnhpncmlaaW.PrintMore Go.Proofs.Ytfefpbnhpncmlaa.EntG Go.Proofs.Ytfefpbnhpncmlaa.StmA Go.Proofs.Ytfefpbnhpncmlaa.StmB Go.Proofs.Ytfefpbnhpncmlaa.StmC Go.Proofs.Ytfefpbnhpncmlaa.CrcC Go.Proofs.Ytfefpbnhpncmlaa.StmD Go.Proofs.Ytfefpbnhpncmlaa.StmE Go.Proofs.Ytfefpbnhpncmlaa.CrcL Go.Proofs.Ytfefpbnhpncmlaa.StmL Go.Proofs.Ytfefpbnhpncmlaa.StmF Go.Proofs.Ytfefpbnhpncmlaa.StmG Go.Proofs.Ytfefpbnhpncmlaa.StmH Go.Proofs.Ytfefpbnhpncmlaa.StmI
set_option linter.unusedVariables false
set_option linter.unusedSimpArgs false

end Go.Proofs.Ytfefpbnhpncmlaa.StmJ
namespace Go.Proofs.Ytfefpbnhpncmlaa.StmK
open Go.RowKit Go.Proofs.Ytfefpbnhpncmlaa.EntL Go.Proofs.Ytfefpbnhpncmlaa.EntB Go.Proofs.Ytfefpbnhpncmlaa.EntC Go.Proofs.Ytfefpbnhpncmlaa.EntD Go.Proofs.Ytfefpbnhpncmlaa.EntE Go.Proofs.Ytfefpbnhpncmlaa.EntF Go.Proofs.Ytfefpbnhpncmlaa.CatR Go.Proofs.Ytfefpbnhpncmlaa.CatT Go.Proofs.Ytfefpbnhpncmlaa.CatU Go.Proofs.Ytfefpbnhpncmlaa.CatK Go.Proofs.Ytfefpbnhpncmlaa.CatS Go.Proofs.Ytfefpbnhpncmlaa.CatY Go.Proofs.Ytfefpbnhpncmlaa.RefG Go.Proofs.Ytfefpbnhpncmlaa.PtrB Go.Proofs.Ytfefpbnhpncmlaa.PtrG Go.Proofs.Ytfefpbnhpncmlaa.Agg Go.Proofs.Ytfefpbnhpncmlaa.B8 Go.Proofs.Ytfefpbnhpncmlaa.CodL Go.Proofs.Ytfefpbnhpncmlaa.CodA Go.Proofs.Ytfefpbnhpncmlaa.CodB Go.Proofs.Ytfefpbnhpncmlaa.CatL Go.Proofs.Ytfefpbnhpncmlaa.PtrA Go.Proofs.Ytfefpbnhpncmlaa.PtrE Go.Proofs.Ytfefpbnhpncmlaa.PtrF Go.Proofs.Ytfefpbnhpncmlaa.PBaseSigns Go.Proofs.YtfefpbnhpncmlaaW.PrintWords Go.Proofs.YtfefpbnhpncmlaaW.PrintLast Go.Proofs.YtfefpbnhpncmlaaW.PrintMore Go.Proofs.Ytfefpbnhpncmlaa.EntG Go.Proofs.Ytfefpbnhpncmlaa.StmA Go.Proofs.Ytfefpbnhpncmlaa.StmB Go.Proofs.Ytfefpbnhpncmlaa.StmC Go.Proofs.Ytfefpbnhpncmlaa.CrcC Go.Proofs.Ytfefpbnhpncmlaa.StmD Go.Proofs.Ytfefpbnhpncmlaa.StmE Go.Proofs.Ytfefpbnhpncmlaa.CrcL Go.Proofs.Ytfefpbnhpncmlaa.StmL Go.Proofs.Ytfefpbnhpncmlaa.StmF Go.Proofs.Ytfefpbnhpncmlaa.StmG Go.Proofs.Ytfefpbnhpncmlaa.StmH
set_option linter.unusedVariables false
set_option linter.unusedSimpArgs false

set_option maxRecDepth 100000 in
theorem is_nil (w : World) : Calls Try.prog 99 #[.nilIface, .iface 41 (.int .i64 11)] w fun e w' => e = .returned (.bool false) ∧ w' = w := by
  obtain ⟨P, hP⟩ : ∃ P : Ending → World → Prop, P = (fun e w' => e = .returned (.bool false) ∧ w' = w) := ⟨_, rfl⟩
  rw [← hP]
  have HP := Aside0.mk hP
  clear hP
  have hq : ∀ W : World, (binOp .eql 147 .nilIface (.iface 41 (.int .i64 11))).run Try.prog W = .ok (.bool false) W := fun W => by kernel_rfl
  go_enter Try.func99, Try.ntmps99
  go_wp2
  rw [HP.out]
  exact ⟨rfl, rfl⟩
end Go.Proofs.Ytfefpbnhpncmlaa.StmK
namespace Go.Proofs.Ytfefpbnhpncmlaa.StmM
open Go.RowKit Go.Proofs.Ytfefpbnhpncmlaa.EntL Go.Proofs.Ytfefpbnhpncmlaa.EntB Go.Proofs.Ytfefpbnhpncmlaa.EntC Go.Proofs.Ytfefpbnhpncmlaa.EntD Go.Proofs.Ytfefpbnhpncmlaa.EntE Go.Proofs.Ytfefpbnhpncmlaa.EntF Go.Proofs.Ytfefpbnhpncmlaa.CatR Go.Proofs.Ytfefpbnhpncmlaa.CatT Go.Proofs.Ytfefpbnhpncmlaa.CatU Go.Proofs.Ytfefpbnhpncmlaa.CatK Go.Proofs.Ytfefpbnhpncmlaa.CatS Go.Proofs.Ytfefpbnhpncmlaa.CatY Go.Proofs.Ytfefpbnhpncmlaa.RefG Go.Proofs.Ytfefpbnhpncmlaa.PtrB Go.Proofs.Ytfefpbnhpncmlaa.PtrG Go.Proofs.Ytfefpbnhpncmlaa.Agg Go.Proofs.Ytfefpbnhpncmlaa.B8 Go.Proofs.Ytfefpbnhpncmlaa.CodL Go.Proofs.Ytfefpbnhpncmlaa.CodA Go.Proofs.Ytfefpbnhpncmlaa.CodB Go.Proofs.Ytfefpbnhpncmlaa.CatL Go.Proofs.Ytfefpbnhpncmlaa.PtrA Go.Proofs.Ytfefpbnhpncmlaa.PtrE Go.Proofs.Ytfefpbnhpncmlaa.PtrF Go.Proofs.Ytfefpbnhpncmlaa.PBaseSigns Go.Proofs.YtfefpbnhpncmlaaW.PrintWords Go.Proofs.YtfefpbnhpncmlaaW.PrintLast Go.Proofs.YtfefpbnhpncmlaaW.PrintMore Go.Proofs.Ytfefpbnhpncmlaa.EntG Go.Proofs.Ytfefpbnhpncmlaa.StmA Go.Proofs.Ytfefpbnhpncmlaa.StmB Go.Proofs.Ytfefpbnhpncmlaa.StmC Go.Proofs.Ytfefpbnhpncmlaa.CrcC Go.Proofs.Ytfefpbnhpncmlaa.StmD Go.Proofs.Ytfefpbnhpncmlaa.StmE Go.Proofs.Ytfefpbnhpncmlaa.CrcL Go.Proofs.Ytfefpbnhpncmlaa.StmL Go.Proofs.Ytfefpbnhpncmlaa.StmF Go.Proofs.Ytfefpbnhpncmlaa.StmG Go.Proofs.Ytfefpbnhpncmlaa.StmH Go.Proofs.Ytfefpbnhpncmlaa.StmI Go.Proofs.Ytfefpbnhpncmlaa.StmJ Go.Proofs.Ytfefpbnhpncmlaa.StmK
set_option linter.unusedVariables false
set_option linter.unusedSimpArgs false

/-- How much a change weighs. -/
def wtC (c : Chg) : Nat := c.key.size + c.inn.size + c.data.size + 2
def wtL (l : List Chg) : Nat := (l.map wtC).sum
theorem wtL_nil : wtL [] = 0 := rfl
theorem wtL_cons (c : Chg) (l : List Chg) : wtL (c :: l) = wtC c + wtL l := by simp [wtL]
theorem wtL_snoc (l : List Chg) (c : Chg) : wtL (l ++ [c]) = wtL l + wtC c := by simp [wtL]
theorem wtL_len (l : List Chg) : 2 * l.length ≤ wtL l := by
  induction l with
  | nil => simp [wtL_nil]
  | cons c l ih => rw [wtL_cons, List.length_cons]; have : 2 ≤ wtC c := by unfold wtC; omega
                   omega
theorem wtL_at (l : List Chg) (i : Nat) (c : Chg) (h : l[i]? = some c) : wtC c ≤ wtL l := by
  induction l generalizing i with
  | nil => simp at h
  | cons d l ih =>
    rw [wtL_cons]
    cases i with
    | zero => simp at h; subst h; omega
    | succ i => have := ih i (by simpa using h); omega
theorem wtL_take (l : List Chg) (j : Nat) : wtL (l.take j) ≤ wtL l := by
  induction l generalizing j with
  | nil => simp
  | cons d l ih =>
    cases j with
    | zero => simp [wtL_nil]
    | succ j => rw [List.take_succ_cons, wtL_cons, wtL_cons]; have := ih j; omega
theorem readShort_pos {l : List Int} (h : (readShort l).2.2 = 0) : 1 ≤ (readShort l).2.1 := by
  unfold readShort at *
  split at h
  · simp at h
  split at h
  · simp at h
  split at h
  · simp at h
  · rename_i h1 h2 h3
    rw [if_neg h1, if_neg h2, if_neg h3]
    simp
theorem readText_wt {l : List Int} {M : Nat} (h : (readText l M).2.2 = 0) : (readText l M).1.size + 1 + (l.drop (readText l M).2.1).length ≤ l.length := by
  have hu := readShort_used l
  unfold readText at *
  split at h
  · rename_i h1; exact absurd h h1
  split at h
  · simp at h
  split at h
  · simp at h
  · rename_i h1 h2 h3
    rw [if_neg h1, if_neg h2, if_neg h3]
    have hp := readShort_pos (l := l) (by simpa using h1)
    simp only [strOfNums, ByteArray.size, List.length_drop]
    simp
    omega
theorem textR_wt {l : List Int} {M : Nat} {bad : Bool} (h : (textR M l bad).2.2 = false) : bad = false ∧ (textR M l bad).1.size + 1 + (textR M l bad).2.1.length ≤ l.length := by
  unfold textR at *
  simp only [Bool.or_eq_false_iff, decide_eq_false_iff_not, ne_eq, Decidable.not_not] at h
  exact ⟨h.1, readText_wt h.2⟩
theorem numR_wt {l : List Int} {M : Nat} {bad : Bool} (h : (StmD.numR M l bad).2.2 = false) : bad = false ∧ (StmD.numR M l bad).2.1.length + 1 ≤ l.length := by
  unfold StmD.numR at *
  simp only [Bool.or_eq_false_iff] at h
  have h2 := h.2
  unfold badN at h2
  simp only [decide_eq_false_iff_not, not_or] at h2
  have hp := readShort_pos (l := l) (by omega)
  have hu := readShort_used l
  rw [h.2]
  refine ⟨h.1, ?_⟩
  simp only [Bool.false_eq_true, if_false, List.length_drop]
  omega
theorem chgR_wt {l : List Int} {bad : Bool} (h : (chgR l bad).2.2 = false) : bad = false ∧ wtC (chgR l bad).1 + (chgR l bad).2.1.length ≤ l.length := by
  unfold chgR at *
  simp only at h ⊢
  by_cases h1 : (StmD.numR 1 (textR 160 l bad).2.1 (textR 160 l bad).2.2).1 = 1
  · rw [if_pos h1] at h ⊢
    obtain ⟨a1, a2⟩ := numR_wt h
    obtain ⟨b1, b2⟩ := textR_wt a1
    refine ⟨b1, ?_⟩
    simp only [wtC]
    have : emp.size = 0 := rfl
    omega
  · rw [if_neg h1] at h ⊢
    obtain ⟨a1, a2⟩ := textR_wt h
    obtain ⟨b1, b2⟩ := textR_wt a1
    obtain ⟨c1, c2⟩ := numR_wt b1
    obtain ⟨d1, d2⟩ := textR_wt c1
    refine ⟨d1, ?_⟩
    simp only [wtC]
    omega
theorem textL_le (s : ByteArray) (h : s.size ≤ 1000000000) : (textL s).length ≤ 10 + s.size := by
  rw [textL, List.length_append, bytesOf_len]
  have : (shortL s.size).length ≤ 10 := glen_ten (n := s.size) (by omega)
  omega
theorem chgL_le (c : Chg) (h : wtC c ≤ 100000) : (chgL c).length ≤ 16 * wtC c := by
  unfold wtC at *
  unfold chgL
  have h1 := textL_le c.key (by omega)
  have h2 := textL_le c.inn (by omega)
  have h3 := textL_le c.data (by omega)
  rw [List.length_append]
  split
  · simp; omega
  · simp; omega
theorem flatC_le (l : List Chg) (h : wtL l ≤ 100000) : (l.flatMap chgL).length ≤ 16 * wtL l := by
  induction l with
  | nil => simp
  | cons c l ih =>
    rw [wtL_cons] at h ⊢
    have h1 := ih (by omega)
    have h2 := chgL_le c (by omega)
    rw [List.flatMap_cons, List.length_append]
    omega
def headS (x : Stm) : List Int := [83, 66, 88, 83] ++ textL x.base ++ textL x.snap ++ shortL x.l.length
theorem headS_le (x : Stm) (hb : x.base.size ≤ 63) (hs : x.snap.size ≤ 63) (h : x.l.length ≤ 100000) : (headS x).length ≤ 200 := by
  unfold headS
  have h1 := textL_le x.base (by omega)
  have h2 := textL_le x.snap (by omega)
  have h3 : (shortL x.l.length).length ≤ 10 := glen_ten (n := x.l.length) (by omega)
  simp only [List.length_append, List.length_cons, List.length_nil]
  omega
theorem headS_byt (x : Stm) : Byt (headS x) := by
  unfold headS
  refine ((((?_ : Byt [83, 66, 88, 83]).append (textL_byt _)).append (textL_byt _)).append (shortL_byt _))
  intro y hy
  simp at hy
  omega
theorem bodyL_head (x : Stm) : bodyL x = headS x ++ x.l.flatMap chgL := rfl
theorem bodyL_le (x : Stm) (hb : x.base.size ≤ 63) (hs : x.snap.size ≤ 63) (h : wtL x.l ≤ 10000) : (bodyL x).length ≤ 200000 := by
  have := wtL_len x.l
  have h1 := headS_le x hb hs (by omega)
  have h2 := flatC_le x.l (by omega)
  rw [bodyL_head, List.length_append]
  omega
/-- What has been laid when some changes were. -/
def partS (x : Stm) (j : Nat) : List Int := headS x ++ (x.l.take j).flatMap chgL
theorem partS_zero (x : Stm) : partS x 0 = headS x := by simp [partS]
theorem partS_all (x : Stm) : partS x x.l.length = bodyL x := by rw [partS, List.take_length]; rfl
theorem partS_succ (x : Stm) (j : Nat) (y : Chg) (h : x.l[j]? = some y) : partS x (j + 1) = partS x j ++ chgL y := by
  rw [partS, partS, List.take_add_one, h]
  simp
theorem partS_byt (x : Stm) (j : Nat) : Byt (partS x j) := (headS_byt x).append (flatC_byt _)
theorem partS_le (x : Stm) (j : Nat) (hb : x.base.size ≤ 63) (hs : x.snap.size ≤ 63) (h : wtL x.l ≤ 10000) : (partS x j).length ≤ 200000 := by
  have := wtL_len x.l
  have h1 := headS_le x hb hs (by omega)
  have h3 := wtL_take x.l j
  have h2 := flatC_le (x.l.take j) (by omega)
  rw [partS, List.length_append]
  omega
theorem namedB_le {s : ByteArray} (h : namedB s = true) : 1 ≤ s.size ∧ s.size ≤ 63 := by simpa [namedB] using h
end Go.Proofs.Ytfefpbnhpncmlaa.StmM
namespace Go.Proofs.Ytfefpbnhpncmlaa.StmN
open Go.RowKit Go.Proofs.Ytfefpbnhpncmlaa.EntL Go.Proofs.Ytfefpbnhpncmlaa.EntB Go.Proofs.Ytfefpbnhpncmlaa.EntC Go.Proofs.Ytfefpbnhpncmlaa.EntD Go.Proofs.Ytfefpbnhpncmlaa.EntE Go.Proofs.Ytfefpbnhpncmlaa.EntF Go.Proofs.Ytfefpbnhpncmlaa.CatR Go.Proofs.Ytfefpbnhpncmlaa.CatT Go.Proofs.Ytfefpbnhpncmlaa.CatU Go.Proofs.Ytfefpbnhpncmlaa.CatK Go.Proofs.Ytfefpbnhpncmlaa.CatS Go.Proofs.Ytfefpbnhpncmlaa.CatY Go.Proofs.Ytfefpbnhpncmlaa.RefG Go.Proofs.Ytfefpbnhpncmlaa.PtrB Go.Proofs.Ytfefpbnhpncmlaa.PtrG Go.Proofs.Ytfefpbnhpncmlaa.Agg Go.Proofs.Ytfefpbnhpncmlaa.B8 Go.Proofs.Ytfefpbnhpncmlaa.CodL Go.Proofs.Ytfefpbnhpncmlaa.CodA Go.Proofs.Ytfefpbnhpncmlaa.CodB Go.Proofs.Ytfefpbnhpncmlaa.CatL Go.Proofs.Ytfefpbnhpncmlaa.PtrA Go.Proofs.Ytfefpbnhpncmlaa.PtrE Go.Proofs.Ytfefpbnhpncmlaa.PtrF Go.Proofs.Ytfefpbnhpncmlaa.PBaseSigns Go.Proofs.YtfefpbnhpncmlaaW.PrintWords Go.Proofs.YtfefpbnhpncmlaaW.PrintLast Go.Proofs.YtfefpbnhpncmlaaW.PrintMore Go.Proofs.Ytfefpbnhpncmlaa.EntG Go.Proofs.Ytfefpbnhpncmlaa.StmA Go.Proofs.Ytfefpbnhpncmlaa.StmB Go.Proofs.Ytfefpbnhpncmlaa.StmC Go.Proofs.Ytfefpbnhpncmlaa.CrcC Go.Proofs.Ytfefpbnhpncmlaa.StmD Go.Proofs.Ytfefpbnhpncmlaa.StmE Go.Proofs.Ytfefpbnhpncmlaa.CrcL Go.Proofs.Ytfefpbnhpncmlaa.StmL Go.Proofs.Ytfefpbnhpncmlaa.StmF Go.Proofs.Ytfefpbnhpncmlaa.StmG Go.Proofs.Ytfefpbnhpncmlaa.StmH Go.Proofs.Ytfefpbnhpncmlaa.StmI Go.Proofs.Ytfefpbnhpncmlaa.StmJ Go.Proofs.Ytfefpbnhpncmlaa.StmK Go.Proofs.Ytfefpbnhpncmlaa.StmM
set_option linter.unusedVariables false
set_option linter.unusedSimpArgs false

/-- What lies between the magic and the sum. -/
def rest0 (L : List Int) : List Int := (L.take (L.length - 4)).drop 4
theorem stmL_take (x : Stm) : (stmL x).take ((stmL x).length - 4) = bodyL x := by
  rw [stmL_len, Nat.add_sub_cancel, stmL]
  exact List.take_left' rfl
theorem stmL_drop (x : Stm) : (stmL x).drop ((stmL x).length - 4) = fixedL 4 (sumN (bodyL x)) := by
  rw [stmL_len, Nat.add_sub_cancel, stmL]
  exact List.drop_left' rfl
theorem stmL_sum (x : Stm) : leL ((stmL x).drop ((stmL x).length - 4)) = (sumN ((stmL x).take ((stmL x).length - 4)) : Int) := by
  rw [stmL_take, stmL_drop, leL_fixedL]
  have := sumN_lt (bodyL x)
  omega
theorem bodyL_eq (x : Stm) : bodyL x = [83, 66, 88, 83] ++ (textL x.base ++ (textL x.snap ++ (shortL x.l.length ++ x.l.flatMap chgL))) := by
  simp [bodyL, List.append_assoc]
theorem rest0_stmL (x : Stm) : rest0 (stmL x) = textL x.base ++ (textL x.snap ++ (shortL x.l.length ++ x.l.flatMap chgL)) := by
  rw [rest0, stmL_take, bodyL_eq]; rfl
theorem magic_stmL (x : Stm) : (stmL x).take 4 = [83, 66, 88, 83] := by
  rw [stmL, bodyL_eq]; rfl
theorem stmL_len8 (x : Stm) : 8 ≤ (stmL x).length := by
  rw [stmL_len, bodyL_eq]
  simp
theorem rest0_len (L : List Int) : (rest0 L).length = L.length - 8 := by simp [rest0]; omega
/-- The bytes of no right stream. -/
def NoS (L : List Int) : Prop := ∀ x, RightS x → stmL x ≠ L
/-- Where the program's reader stands behind some changes. -/
structure Inv (L : List Int) (base snap : ByteArray) (n j : Nat) (cs : List Chg) (rest : List Int) (bad : Bool) : Prop where
  len : cs.length = j
  wt : bad = false → wtL cs + rest.length ≤ L.length
  on : ∀ x, RightS x → stmL x = L → base = x.base ∧ snap = x.snap ∧ n = x.l.length ∧ cs = x.l.take j ∧ rest = (x.l.drop j).flatMap chgL ∧ bad = false
/-- The program's head. -/
def headR (L : List Int) : ByteArray × ByteArray × Int × List Int × Bool :=
  let a := textR 63 (rest0 L) false
  let b := textR 63 a.2.1 a.2.2
  let n := StmD.numR 65536 b.2.1 b.2.2
  (a.1, b.1, n.1, n.2.1, n.2.2)
theorem rightS_text {x : Stm} (h : RightS x) : x.base.size ≤ 63 ∧ x.snap.size ≤ 63 := ⟨h.base, (namedB_le h.snap).2⟩
theorem headR_ok {x : Stm} (h : RightS x) : headR (stmL x) = (x.base, x.snap, (x.l.length : Int), x.l.flatMap chgL, false) := by
  unfold headR
  rw [rest0_stmL, textR_ok 63 (by decide) _ (rightS_text h).1]
  simp only
  rw [textR_ok 63 (by decide) _ (rightS_text h).2]
  simp only
  rw [numR_ok 65536 (by decide) _ h.len]
theorem headR_len (L : List Int) : (headR L).2.2.2.2 = false → (headR L).2.2.2.1.length ≤ L.length := by
  intro h
  unfold headR at *
  simp only at *
  obtain ⟨a1, a2⟩ := numR_wt h
  obtain ⟨b1, b2⟩ := textR_wt a1
  obtain ⟨c1, c2⟩ := textR_wt b1
  have := rest0_len L
  omega
theorem inv_start (L : List Int) : Inv L (headR L).1 (headR L).2.1 (headR L).2.2.1.toNat 0 [] (headR L).2.2.2.1 (headR L).2.2.2.2 :=
  ⟨rfl, fun h => by rw [wtL_nil]; have := headR_len L h; omega, fun x hx h => by
    subst h
    rw [headR_ok hx]
    exact ⟨rfl, rfl, by simp, rfl, rfl, rfl⟩⟩
theorem drop_cons_at {l : List Chg} {j : Nat} (h : j < l.length) : ∃ c, l[j]? = some c ∧ l.drop j = c :: l.drop (j + 1) :=
  ⟨l[j], List.getElem?_eq_getElem h, by rw [List.getElem_cons_drop]⟩
theorem inv_step {L : List Int} {base snap : ByteArray} {n j : Nat} {cs : List Chg} {rest : List Int} {bad : Bool} (h : Inv L base snap n j cs rest bad) (hj : j < n) :
    Inv L base snap n (j + 1) (cs ++ [(chgR rest bad).1]) (chgR rest bad).2.1 (chgR rest bad).2.2 :=
  ⟨by rw [List.length_append, h.len]; rfl, fun hb => by
    obtain ⟨h1, h2⟩ := chgR_wt hb
    have := h.wt h1
    rw [wtL_snoc]
    omega, fun x hx hL => by
    obtain ⟨e1, e2, e3, e4, e5, e6⟩ := h.on x hx hL
    obtain ⟨c, hc, hd⟩ := drop_cons_at (show j < x.l.length by omega)
    have ok := chgR_ok (hx.all j c hc) ((x.l.drop (j + 1)).flatMap chgL)
    rw [e5, e6, hd, List.flatMap_cons, ok]
    refine ⟨e1, e2, e3, ?_, rfl, rfl⟩
    rw [List.take_add_one, hc, e4]; rfl⟩
theorem inv_bad {L : List Int} {base snap : ByteArray} {n j : Nat} {cs : List Chg} {rest : List Int} (h : Inv L base snap n j cs rest true) : NoS L := fun x hx hL => by
  have := (h.on x hx hL).2.2.2.2.2
  cases this
theorem inv_rest {L : List Int} {base snap : ByteArray} {n : Nat} {cs : List Chg} {rest : List Int} {bad : Bool} (h : Inv L base snap n n cs rest bad) (hr : rest ≠ []) : NoS L := fun x hx hL => by
  obtain ⟨e1, e2, e3, e4, e5, e6⟩ := h.on x hx hL
  rw [e3, List.drop_length] at e5
  exact hr e5
theorem inv_end {L : List Int} {base snap : ByteArray} {n : Nat} {cs : List Chg} {rest : List Int} {bad : Bool} (h : Inv L base snap n n cs rest bad) (x : Stm) (hx : RightS x) (hL : stmL x = L) : x = ⟨base, snap, cs⟩ := by
  obtain ⟨e1, e2, e3, e4, e5, e6⟩ := h.on x hx hL
  rw [e3, List.take_length] at e4
  obtain ⟨b, s, l⟩ := x
  simp only at e1 e2 e4
  rw [e1, e2, e4]
/-- Two right streams of the same bytes are one. -/
theorem loop_inv {x : Stm} (hx : RightS x) (j : Nat) (hj : j ≤ x.l.length) : ∃ cs rest bad, Inv (stmL x) x.base x.snap x.l.length j cs rest bad := by
  induction j with
  | zero =>
    have := inv_start (stmL x)
    rw [headR_ok hx] at this
    simp only [Int.toNat_natCast] at this
    exact ⟨_, _, _, this⟩
  | succ j ih =>
    obtain ⟨cs, rest, bad, h⟩ := ih (by omega)
    exact ⟨_, _, _, inv_step h (by omega)⟩
theorem stmL_inj {x y : Stm} (hx : RightS x) (hy : RightS y) (h : stmL x = stmL y) : x = y := by
  obtain ⟨cs, rest, bad, h1⟩ := loop_inv hx x.l.length (Nat.le_refl _)
  rw [inv_end h1 x hx rfl, inv_end h1 y hy h.symm]
theorem noS_magic {L : List Int} (h : L.take 4 ≠ [83, 66, 88, 83]) : NoS L := fun x hx hL => by subst hL; exact h (magic_stmL x)
end Go.Proofs.Ytfefpbnhpncmlaa.StmN
namespace Go.Proofs.Ytfefpbnhpncmlaa.StmO
open Go.RowKit Go.Proofs.Ytfefpbnhpncmlaa.EntL Go.Proofs.Ytfefpbnhpncmlaa.EntB Go.Proofs.Ytfefpbnhpncmlaa.EntC Go.Proofs.Ytfefpbnhpncmlaa.EntD Go.Proofs.Ytfefpbnhpncmlaa.EntE Go.Proofs.Ytfefpbnhpncmlaa.EntF Go.Proofs.Ytfefpbnhpncmlaa.CatR Go.Proofs.Ytfefpbnhpncmlaa.CatT Go.Proofs.Ytfefpbnhpncmlaa.CatU Go.Proofs.Ytfefpbnhpncmlaa.CatK Go.Proofs.Ytfefpbnhpncmlaa.CatS Go.Proofs.Ytfefpbnhpncmlaa.CatY Go.Proofs.Ytfefpbnhpncmlaa.RefG Go.Proofs.Ytfefpbnhpncmlaa.PtrB Go.Proofs.Ytfefpbnhpncmlaa.PtrG Go.Proofs.Ytfefpbnhpncmlaa.Agg Go.Proofs.Ytfefpbnhpncmlaa.B8 Go.Proofs.Ytfefpbnhpncmlaa.CodL Go.Proofs.Ytfefpbnhpncmlaa.CodA Go.Proofs.Ytfefpbnhpncmlaa.CodB Go.Proofs.Ytfefpbnhpncmlaa.CatL Go.Proofs.Ytfefpbnhpncmlaa.PtrA Go.Proofs.Ytfefpbnhpncmlaa.PtrE Go.Proofs.Ytfefpbnhpncmlaa.PtrF Go.Proofs.Ytfefpbnhpncmlaa.PBaseSigns Go.Proofs.YtfefpbnhpncmlaaW.PrintWords Go.Proofs.YtfefpbnhpncmlaaW.PrintLast Go.Proofs.YtfefpbnhpncmlaaW.PrintMore Go.Proofs.Ytfefpbnhpncmlaa.EntG Go.Proofs.Ytfefpbnhpncmlaa.StmA Go.Proofs.Ytfefpbnhpncmlaa.StmB Go.Proofs.Ytfefpbnhpncmlaa.StmC Go.Proofs.Ytfefpbnhpncmlaa.CrcC Go.Proofs.Ytfefpbnhpncmlaa.StmD Go.Proofs.Ytfefpbnhpncmlaa.StmE Go.Proofs.Ytfefpbnhpncmlaa.CrcL Go.Proofs.Ytfefpbnhpncmlaa.StmL Go.Proofs.Ytfefpbnhpncmlaa.StmF Go.Proofs.Ytfefpbnhpncmlaa.StmG Go.Proofs.Ytfefpbnhpncmlaa.StmH Go.Proofs.Ytfefpbnhpncmlaa.StmI Go.Proofs.Ytfefpbnhpncmlaa.StmJ Go.Proofs.Ytfefpbnhpncmlaa.StmK Go.Proofs.Ytfefpbnhpncmlaa.StmM Go.Proofs.Ytfefpbnhpncmlaa.StmN Go.Proofs.Ytfefpbnhpncmlaa.CrcB
set_option linter.unusedVariables false
set_option linter.unusedSimpArgs false

/-- A stream's bytes are told, or none and a fault's number. -/
noncomputable def outS (x : Stm) : List Int := if rightB x then stmL x else []
noncomputable def codeS (x : Stm) : Int := if rightB x then 0 else 2
def TellsPutS (w : World) (k : Int → Value) (x : Stm) (e : Ending) (w' : World) : Prop :=
  ∃ v, e = .returned (.tuple #[v, k (codeS x)]) ∧ R8 w' w.heap.size v (outS x) ∧ Below w.heap.size w w'
/-- Where Put stands. -/
structure PS (w : World) (v : Value) (out : List Int) (cs : Array Value) (t : TypeId) (W : World) : Prop where
  row : R8 W w.heap.size v out
  blk : W.heap[w.heap.size]? = some (.cells cs t (0, 0))
  below : Below w.heap.size w W
theorem PS.call {w W W' : World} {v v1 : Value} {out out1 : List Int} {cs : Array Value} {t : TypeId} (h : PS w v out cs t W) (h1 : R8 W' W.heap.size v1 out1) (h2 : Below W.heap.size W W') : PS w v1 out1 cs t W' :=
  ⟨Kd.R_lower (base' := w.heap.size) h1 h.below.size, blk_below h.blk h2, below_then h.below h.below.size h2⟩
theorem PS.on {w W W' : World} {v : Value} {out : List Int} {cs : Array Value} {t : TypeId} (h : PS w v out cs t W) (h2 : Below W.heap.size W W') : PS w v out cs t W' :=
  ⟨Kd.R_below h.row h2, blk_below h.blk h2, below_then h.below h.below.size h2⟩
section
variable {ops : Array Oper} {o : Oper} {rest : List Oper} {a : Act} {Q : Exit → Act → World → Prop} {K : Act → World → Prop}
/-- A byte is laid behind Put's. -/
theorem PS.app1 {w W : World} {v : Value} {out : List Int} {cs : Array Value} {t : TypeId} (H : PS w v out cs t W) (ht : 5 ≠ t) (hgd : o.guard = none) (s x : Operand)
    (ho : o.op = .call { callee := .builtin .append, args := #[s, x], argTypes := #[31, 31] }) (p : Int) (hs : a.eval s = v) (hx : a.eval x = .slice (some ⟨W.heap.size, 0, none⟩) 1 1) (hl : out.length < 1000000)
    (h : ∀ v1 w1, PS w v1 (out ++ [p]) cs t w1 → W.grownBy w1 v.ownBlock → wpList Try.prog ops Q rest (a.put o.dst v1) w1) :
    wpList Try.prog ops Q (o :: rest) a (W.alloc (.cells #[.int .u8 p] 5)) :=
  Kd.R_append (Kd.int .u8) (w0 := w) w.heap.size hgd s x 31 5 (.int .u8 0) 1 ho Try.underlying31 info5 rfl (by decide) (by omega) v out p [.int .u8 p] (fun _ => True) (fun _ => False) hs hx rfl (fun _ hk => hk.elim) (fun _ _ => trivial) H.row H.below H.below.size (by omega)
    (fun v1 w1 h1 h2 h3 _ => h v1 w1 ⟨h1, blk_grown H.blk h3 (Kd.R_ne H.row H.blk ht), h2⟩ h3)
/-- Bytes are laid behind Put's. -/
theorem PS.appRow {w W : World} {v : Value} {out : List Int} {cs : Array Value} {t : TypeId} (H : PS w v out cs t W) (ht : 5 ≠ t) (hgd : o.guard = none) (s x : Operand)
    (ho : o.op = .call { callee := .builtin .append, args := #[s, x], argTypes := #[31, 31] }) (ys : List Int) (A : Option Addr) (m c : Nat) (hs : a.eval s = v) (hx : a.eval x = .slice A m c) (HR : C8 W A m ys) (hl : out.length < 1000000) (hm : m ≤ 1000000)
    (h : ∀ v1 w1, PS w v1 (out ++ ys) cs t w1 → W.grownBy w1 v.ownBlock → wpList Try.prog ops Q rest (a.put o.dst v1) w1) :
    wpList Try.prog ops Q (o :: rest) a W :=
  Kd.R_append_rows (Kd.int .u8) (w0 := w) w.heap.size hgd s x 31 5 (.int .u8 0) 1 ho Try.underlying31 info5 rfl (by decide) (by omega) v out ys A m c (fun _ => True) (fun _ => False) hs hx H.row HR (fun _ _ h => h) (fun _ h => h.elim) (fun _ _ => trivial) H.below H.below.size (by omega)
    (fun v1 w1 h1 h2 h3 _ => h v1 w1 ⟨h1, blk_grown H.blk h3 (Kd.R_ne H.row H.blk ht), h2⟩ h3)
end
theorem chgL_gone (k i d : ByteArray) (o : List Int) : o ++ textL k ++ [1] = o ++ chgL ⟨k, i, d, true⟩ := by
  simp [chgL]
theorem chgL_live (k i d : ByteArray) (o : List Int) : o ++ textL k ++ [0] ++ textL i ++ textL d = o ++ chgL ⟨k, i, d, false⟩ := by
  simp [chgL]
end Go.Proofs.Ytfefpbnhpncmlaa.StmO
namespace Go.Proofs.Ytfefpbnhpncmlaa.StmP
open Go.RowKit Go.Proofs.Ytfefpbnhpncmlaa.EntL Go.Proofs.Ytfefpbnhpncmlaa.EntB Go.Proofs.Ytfefpbnhpncmlaa.EntC Go.Proofs.Ytfefpbnhpncmlaa.EntD Go.Proofs.Ytfefpbnhpncmlaa.EntE Go.Proofs.Ytfefpbnhpncmlaa.EntF Go.Proofs.Ytfefpbnhpncmlaa.CatR Go.Proofs.Ytfefpbnhpncmlaa.CatT Go.Proofs.Ytfefpbnhpncmlaa.CatU Go.Proofs.Ytfefpbnhpncmlaa.CatK Go.Proofs.Ytfefpbnhpncmlaa.CatS Go.Proofs.Ytfefpbnhpncmlaa.CatY Go.Proofs.Ytfefpbnhpncmlaa.RefG Go.Proofs.Ytfefpbnhpncmlaa.PtrB Go.Proofs.Ytfefpbnhpncmlaa.PtrG Go.Proofs.Ytfefpbnhpncmlaa.Agg Go.Proofs.Ytfefpbnhpncmlaa.B8 Go.Proofs.Ytfefpbnhpncmlaa.CodL Go.Proofs.Ytfefpbnhpncmlaa.CodA Go.Proofs.Ytfefpbnhpncmlaa.CodB Go.Proofs.Ytfefpbnhpncmlaa.CatL Go.Proofs.Ytfefpbnhpncmlaa.PtrA Go.Proofs.Ytfefpbnhpncmlaa.PtrE Go.Proofs.Ytfefpbnhpncmlaa.PtrF Go.Proofs.Ytfefpbnhpncmlaa.PBaseSigns Go.Proofs.YtfefpbnhpncmlaaW.PrintWords Go.Proofs.YtfefpbnhpncmlaaW.PrintLast Go.Proofs.YtfefpbnhpncmlaaW.PrintMore Go.Proofs.Ytfefpbnhpncmlaa.EntG Go.Proofs.Ytfefpbnhpncmlaa.StmA Go.Proofs.Ytfefpbnhpncmlaa.StmB Go.Proofs.Ytfefpbnhpncmlaa.StmC Go.Proofs.Ytfefpbnhpncmlaa.CrcC Go.Proofs.Ytfefpbnhpncmlaa.StmD Go.Proofs.Ytfefpbnhpncmlaa.StmE Go.Proofs.Ytfefpbnhpncmlaa.CrcL Go.Proofs.Ytfefpbnhpncmlaa.StmL Go.Proofs.Ytfefpbnhpncmlaa.StmF Go.Proofs.Ytfefpbnhpncmlaa.StmG Go.Proofs.Ytfefpbnhpncmlaa.StmH Go.Proofs.Ytfefpbnhpncmlaa.StmI Go.Proofs.Ytfefpbnhpncmlaa.StmJ Go.Proofs.Ytfefpbnhpncmlaa.StmK Go.Proofs.Ytfefpbnhpncmlaa.StmM Go.Proofs.Ytfefpbnhpncmlaa.StmN Go.Proofs.Ytfefpbnhpncmlaa.StmO
set_option linter.unusedVariables false
set_option linter.unusedSimpArgs false

section
variable {ops : Array Oper} {o : Oper} {rest : List Oper} {a : Act} {Q : Exit → Act → World → Prop} {K : Act → World → Prop}
theorem wp_app1 {w W : World} {v : Value} {out : List Int} {cs : Array Value} {t : TypeId} (H : PS w v out cs t W) (ht : 5 ≠ t) (s x : Operand)
    (ho : o.op = .call { callee := .builtin .append, args := #[s, x], argTypes := #[31, 31] }) (p : Int) (hs : a.eval s = v) (hx : a.eval x = .slice (some ⟨W.heap.size, 0, none⟩) 1 1) (hl : out.length < 1000000)
    (h : ∀ v1 w1, PS w v1 (out ++ [p]) cs t w1 → W.grownBy w1 v.ownBlock → K (a.put o.dst v1) w1) :
    o.wp Try.prog a (W.alloc (.cells #[.int .u8 p] 5)) K Q := by
  have hop : ({ o with guard := none } : Oper).op = .call { callee := .builtin .append, args := #[s, x], argTypes := #[31, 31] } := ho
  have := Kd.R_append_step (P := Try.prog) (ops := #[]) (o := { o with guard := none }) (a := a) (Q := Q) (Kc := K) (Kd.int .u8) (w0 := w) w.heap.size rfl s x 31 5 (.int .u8 0) 1 hop Try.underlying31 info5 rfl (by decide) (by decide) v out p [.int .u8 p] (fun _ => True) (fun _ => False) hs hx rfl (fun _ h => h.elim) (fun _ _ => trivial) H.row H.below H.below.size (by omega)
    (fun v1 w1 h1 h2 h3 _ => h v1 w1 ⟨h1, blk_grown H.blk h3 (Kd.R_ne H.row H.blk ht), h2⟩ h3)
  have hw : Region.wanted { o with guard := none } (yielded #[] a.tmps) = true := rfl
  rw [if_pos hw] at this
  exact this
theorem wp_appRow {w W : World} {v : Value} {out : List Int} {cs : Array Value} {t : TypeId} (H : PS w v out cs t W) (ht : 5 ≠ t) (s x : Operand)
    (ho : o.op = .call { callee := .builtin .append, args := #[s, x], argTypes := #[31, 31] }) (ys : List Int) (A : Option Addr) (m c : Nat) (hs : a.eval s = v) (hx : a.eval x = .slice A m c) (HR : C8 W A m ys) (hl : out.length < 1000000) (hm : m ≤ 1000000)
    (h : ∀ v1 w1, PS w v1 (out ++ ys) cs t w1 → W.grownBy w1 v.ownBlock → K (a.put o.dst v1) w1) :
    o.wp Try.prog a W K Q := by
  have hop : ({ o with guard := none } : Oper).op = .call { callee := .builtin .append, args := #[s, x], argTypes := #[31, 31] } := ho
  have := Kd.R_append_rows_step (P := Try.prog) (ops := #[]) (o := { o with guard := none }) (a := a) (Q := Q) (Kc := K) (Kd.int .u8) (w0 := w) w.heap.size rfl s x 31 5 (.int .u8 0) 1 hop Try.underlying31 info5 rfl (by decide) (by decide) v out ys A m c (fun _ => True) (fun _ => False) hs hx H.row HR (fun _ _ h => h) (fun _ h => h.elim) (fun _ _ => trivial) H.below H.below.size (by omega)
    (fun v1 w1 h1 h2 h3 _ => h v1 w1 ⟨h1, blk_grown H.blk h3 (Kd.R_ne H.row H.blk ht), h2⟩ h3)
  have hw : Region.wanted { o with guard := none } (yielded #[] a.tmps) = true := rfl
  rw [if_pos hw] at this
  exact this
theorem wp_zero {w : World} (ho : o.op = .buildSlice 31 1 #[(0, .const (.int .u8 0))])
    (h : K (a.put o.dst (.slice (some ⟨w.heap.size, 0, none⟩) 1 1)) (w.alloc (.cells #[.int .u8 0] 5))) : o.wp Try.prog a w K Q := by
  unfold Oper.wp execOp
  have hm : (#[(0, Operand.const (.int .u8 0))] : Array (Nat × Operand)).map (fun (i, x) => (i, a.eval x)) = #[(0, .int .u8 0)] := by simp [Act.eval]
  have hr : (Instr.buildSlice 31 1 #[(0, .int .u8 0)]).run Try.prog w = .ok (.slice (some ⟨w.heap.size, 0, none⟩) 1 1) (w.alloc (.cells #[.int .u8 0] 5)) := by kernel_rfl
  simp only [ho]
  rw [hm]
  simp only [Sem.run_bind, Sem.run_pure, Result.andThen_ok, hr]
  exact h
theorem wp_magic {w : World} (ho : o.op = .buildSlice 31 4 #[(0, .const (.int .u8 83)), (1, .const (.int .u8 66)), (2, .const (.int .u8 88)), (3, .const (.int .u8 83))])
    (h : K (a.put o.dst (.slice (some ⟨w.heap.size, 0, none⟩) 4 4)) (w.alloc (.cells #[.int .u8 83, .int .u8 66, .int .u8 88, .int .u8 83] 5))) : o.wp Try.prog a w K Q := by
  unfold Oper.wp execOp
  have hm : (#[(0, .const (.int .u8 83)), (1, .const (.int .u8 66)), (2, .const (.int .u8 88)), (3, .const (.int .u8 83))] : Array (Nat × Operand)).map (fun (i, x) => (i, a.eval x)) = #[(0, .int .u8 83), (1, .int .u8 66), (2, .int .u8 88), (3, .int .u8 83)] := by simp [Act.eval]
  have hr : (Instr.buildSlice 31 4 #[(0, .int .u8 83), (1, .int .u8 66), (2, .int .u8 88), (3, .int .u8 83)]).run Try.prog w = .ok (.slice (some ⟨w.heap.size, 0, none⟩) 4 4) (w.alloc (.cells #[.int .u8 83, .int .u8 66, .int .u8 88, .int .u8 83] 5)) := by kernel_rfl
  simp only [ho]
  rw [hm]
  simp only [Sem.run_bind, Sem.run_pure, Result.andThen_ok, hr]
  exact h
end
theorem i79 (a b c : Value) : (Try.prog.info? 79).map (·.size) = some (#[a, b, c] : Array Value).size := by
  rw [show (#[a, b, c] : Array Value).size = 3 from rfl]; kernel_rfl
theorem u79 : Try.prog.underlying 79 = some (.struct (Try.prog.fieldsOf 79)) := by kernel_rfl
set_option maxRecDepth 100000 in
set_option maxHeartbeats 1000000 in
theorem put_calls (x : Stm) (A : Option Addr) (c n : Nat) (xs : List Sl) (w : World) (h : CR w A n xs x.l) (hm : n ≤ 9000) (hwt : rightB x = true → wtL x.l ≤ 10000) :
    Calls Try.prog 46 #[.agg #[.string x.base, .string x.snap, .slice A n c]] w (TellsPutS w (.int .i64) x) := by
  obtain ⟨base, snap, l⟩ := x
  obtain ⟨X, hX⟩ : ∃ X : Stm, X = ⟨base, snap, l⟩ := ⟨_, rfl⟩
  have H := Aside0.mk h
  have HLEN := Aside0.mk h.len
  have HX := Aside0.mk hX
  have B0 := Aside0.mk (below_alloc (Below.refl w.heap.size w) (.cells #[.string base, .string snap, .slice A n c] 79))
  have G0 := Aside0.mk (blk_new w (.cells #[.string base, .string snap, .slice A n c] 79))
  obtain ⟨P, hP⟩ : ∃ P : Ending → World → Prop, P = TellsPutS w (.int .i64) ⟨base, snap, l⟩ := ⟨_, rfl⟩
  rw [← hP]
  have HP := Aside0.mk hP
  rw [← hX] at hwt
  clear hP h hX
  go_enter Try.func46, Try.ntmps46
  go_wp2_with (refine wpList_load_row rfl 79 (.tmp 1) rfl w.heap.size rfl 79 #[.string base, .string snap, .slice A n c] (0, 0) _ G0.out u79 rfl (i79 _ _ _) ?_)
  generalize hW0 : w.alloc (.cells #[.string base, .string snap, .slice A n c] 79) = W0 at *
  have hs0 : W0.heap.size = w.heap.size + 1 := by rw [← hW0]; simp
  clear hW0
  refine (right_calls ⟨base, snap, l⟩ A c n xs W0 (H.out.below B0.out) hm).mono ?_
  rintro e w1 ⟨rfl, hb1⟩
  have P1 := Aside0.mk (⟨Kd.R_nil _ _ _ _ _, blk_below G0.out hb1, below_then B0.out B0.out.size hb1⟩ : PS w (.slice none 0 0) [] #[.string base, .string snap, .slice A n c] 79 w1)
  clear hb1
  rw [← HX.out]
  cases hr : rightB X with
  | false =>
    have HR := Aside0.mk hr
    clear hr hwt
    go_wp2
    rw [HP.out, ← HX.out]
    refine ⟨_, by rw [codeS, HR.out]; rfl, ?_, P1.out.below⟩
    rw [outS, HR.out]
    exact Kd.R_nil _ _ _ _ _
  | true =>
    have HR := Aside0.mk hr
    have HRS : Aside0 (RightS X) := ⟨by unfold StmI.rightB at hr; simpa using hr⟩
    have HW := Aside0.mk (hwt hr)
    have hsz := rightS_text HRS.out
    rw [HX.out] at hsz
    simp only at hsz
    clear hr hwt
    go_wp2
    have P1' := Aside0.mk (P1.out.on (below_drew (Below.refl w1.heap.size w1)))
    clear P1
    refine wp_region_held_drew (S := fun w' => Below w.heap.size w w' ∧ w'.heap[w.heap.size]? = some (.cells #[.string base, .string snap, .slice A n c] 79 (0, 0))) (by kernel_rfl) ⟨P1'.out.below, P1'.out.blk⟩ (fun hW => ?_)
    generalize w1.drew = w1d at *
    refine wpAnyH_take (i := 2) (oi := ⟨some 12, _, _, _, _, _⟩) (v := .pointer (some ⟨w.heap.size, 0, none⟩)) rfl (by kernel_rfl) (by kernel_rfl) (by kernel_rfl) (fun _ _ _ h => h) (.inl ⟨by rfl, fun W1 h1 => by go_simp⟩) hW ?_
    try simp only [Act.put, List.setIfInBounds_toArray, List.set_cons_zero, List.set_cons_succ]
    refine wpAnyH_take (i := 3) (oi := ⟨some 13, _, _, _, _, _⟩) (v := .string base) rfl (by kernel_rfl) (by kernel_rfl) (by kernel_rfl) (fun _ _ _ h => h) (.inl ⟨by rfl, fun W1 h1 => by (have x1 : W1.cell? ⟨w.heap.size, 0, none⟩ = some (.string base) := (by rw [cell_of_row _ _ 0 _ 79 (0, 0) h1.2]; rfl)); go_simp⟩) hW ?_
    try simp only [Act.put, List.setIfInBounds_toArray, List.set_cons_zero, List.set_cons_succ]
    refine wpAnyH_take (i := 5) (oi := ⟨some 15, _, _, _, _, _⟩) (v := .pointer (some ⟨w.heap.size, 1, none⟩)) rfl (by kernel_rfl) (by kernel_rfl) (by kernel_rfl) (fun _ _ _ h => h) (.inl ⟨by rfl, fun W1 h1 => by go_simp⟩) hW ?_
    try simp only [Act.put, List.setIfInBounds_toArray, List.set_cons_zero, List.set_cons_succ]
    refine wpAnyH_take (i := 6) (oi := ⟨some 16, _, _, _, _, _⟩) (v := .string snap) rfl (by kernel_rfl) (by kernel_rfl) (by kernel_rfl) (fun _ _ _ h => h) (.inl ⟨by rfl, fun W1 h1 => by (have x1 : W1.cell? ⟨w.heap.size, 1, none⟩ = some (.string snap) := (by rw [cell_of_row _ _ 1 _ 79 (0, 0) h1.2]; rfl)); go_simp⟩) hW ?_
    try simp only [Act.put, List.setIfInBounds_toArray, List.set_cons_zero, List.set_cons_succ]
    refine wpAnyH_ready (rs := [0]) (by kernel_rfl) (by simp) (AllReadyH.cons rfl (fun K1 hK1 => ?_) AllReadyH.nil)
    refine wp_magic (o := ⟨some 10, _, _, _, _, _⟩) rfl ?_
    have hb1 := below_alloc (Below.refl w1d.heap.size w1d) (.cells #[.int .u8 83, .int .u8 66, .int .u8 88, .int .u8 83] 5)
    refine hK1.out _ _ ⟨below_then P1'.out.below P1'.out.below.size hb1, blk_below P1'.out.blk hb1⟩ (fun hW => ?_)
    try simp only [Act.put, List.setIfInBounds_toArray, List.set_cons_zero, List.set_cons_succ]
    have cv31 : (convert 31 31 (.slice (some ⟨w1d.heap.size, 0, none⟩) 4 4)).run Try.prog (w1d.alloc (.cells #[.int .u8 83, .int .u8 66, .int .u8 88, .int .u8 83] 5)) = .ok (.slice (some ⟨w1d.heap.size, 0, none⟩) 4 4) (w1d.alloc (.cells #[.int .u8 83, .int .u8 66, .int .u8 88, .int .u8 83] 5 (4, 5))) := Lib.run_convert_bytes_const w1d 31 5 #[.int .u8 83, .int .u8 66, .int .u8 88, .int .u8 83] 4 4 Try.underlying31 Try.underlying5
    refine wpAnyH_ready (rs := [1]) (by kernel_rfl) (by simp) (AllReadyH.cons rfl (fun K2 hK2 => ?_) AllReadyH.nil)
    go_simp
    have C1 := Aside0.mk (C8_mark w1d [83, 66, 88, 83] 5 (4, 5) (by simp))
    have P2 := Aside0.mk (P1'.out.on (below_alloc (Below.refl w1d.heap.size w1d) (.cells #[.int .u8 83, .int .u8 66, .int .u8 88, .int .u8 83] 5 (4, 5))))
    refine hK2.out _ _ ⟨P2.out.below, P2.out.blk⟩ (fun hW => ?_)
    try simp only [Act.put, List.setIfInBounds_toArray, List.set_cons_zero, List.set_cons_succ]
    clear cv31 hb1
    simp only [List.map_cons, List.map_nil, List.length_cons, List.length_nil] at C1
    generalize (w1d.alloc (.cells #[.int .u8 83, .int .u8 66, .int .u8 88, .int .u8 83] 5 (4, 5))) = W2 at *
    refine wpAnyH_ready (rs := [4]) (by kernel_rfl) (by simp) (AllReadyH.cons rfl (fun K3 hK3 => ?_) AllReadyH.nil)
    go_simp
    refine (text_calls _ _ 4 [83, 66, 88, 83] rfl base W2 C1.out (by decide) (by omega)).mono ?_
    rintro e w3 ⟨v3, rfl, hr3, hb3⟩
    have P3 := Aside0.mk (P2.out.call hr3 hb3)
    clear hr3 hb3 C1 P2
    refine hK3.out _ _ ⟨P3.out.below, P3.out.blk⟩ (fun hW => ?_)
    try simp only [Act.put, List.setIfInBounds_toArray, List.set_cons_zero, List.set_cons_succ]
    obtain ⟨A3, c3, rfl, hle3, hC3⟩ := Kd.R_reads P3.out.row
    have HC3 := Aside0.mk hC3
    have hL3 : ([83, 66, 88, 83] ++ textL base).length ≤ 100 := by have := textL_le base (by omega); rw [List.length_append]; simp; omega
    clear hle3 hC3
    generalize hm3 : ([83, 66, 88, 83] ++ textL base) = m3 at *
    refine wpAnyH_ready (rs := [7]) (by kernel_rfl) (by simp) (AllReadyH.cons rfl (fun K4 hK4 => ?_) AllReadyH.nil)
    go_simp
    refine (text_calls _ _ _ _ rfl snap w3 HC3.out (by omega) (by omega)).mono ?_
    rintro e w4 ⟨v4, rfl, hr4, hb4⟩
    have P4 := Aside0.mk (P3.out.call hr4 hb4)
    refine hK4.out _ _ ⟨P4.out.below, P4.out.blk⟩ (fun hW => ?_)
    try simp only [Act.put, List.setIfInBounds_toArray, List.set_cons_zero, List.set_cons_succ]
    refine wpAnyH_take (i := 8) (oi := ⟨some 4, _, _, _, _, _⟩) (v := v4) rfl (by kernel_rfl) (by kernel_rfl) (by kernel_rfl) (fun _ _ _ h => h) (.inl ⟨by rfl, fun W1 h1 => by go_simp⟩) hW ?_
    try simp only [Act.put, List.setIfInBounds_toArray, List.set_cons_zero, List.set_cons_succ]
    refine wpAnyH_done (by kernel_rfl) ?_ _
    clear hr4 hb4 HC3 P3 hW hK1 hK2 hK3 hK4 K1 K2 K3 K4
    have x2 : w4.cell? ⟨w.heap.size, 2, none⟩ = some (.slice A n c) := by rw [cell_of_row _ _ 2 _ 79 (0, 0) P4.out.blk]; rfl
    obtain ⟨A4, c4, rfl, hle4, hC4⟩ := Kd.R_reads P4.out.row
    have HC4 := Aside0.mk hC4
    have hL4 : (m3 ++ textL snap).length ≤ 200 := by have := textL_le snap (by omega); rw [List.length_append]; omega
    clear hle4 hC4
    generalize hm4 : m3 ++ textL snap = m4 at *
    go_wp2_with fail
    refine (CodA.short_calls _ _ m4 n w4 HC4.out (by omega) (by omega)).mono ?_
    rintro e w5 ⟨v5, rfl, hr5, hb5⟩
    have P5 := Aside0.mk (P4.out.call hr5 hb5)
    have HM : Aside0 (m4 ++ shortL n = partS X 0) := ⟨by rw [partS_zero, headS, HX.out, ← hm4, ← hm3, ← HLEN.out]⟩
    rw [HM.out] at P5
    clear hr5 hb5 x2 HC4 P4 hm3 hm4 HM hL3 hL4
    have x2 : w5.cell? ⟨w.heap.size, 2, none⟩ = some (.slice A n c) := by rw [cell_of_row _ _ 2 _ 79 (0, 0) P5.out.blk]; rfl
    go_wp2
    go_loopw [4, 27] (fun v4 v5 wr => ∃ (j : Nat) (out : List Int), v5 = .int .i64 (j : Int) ∧ j ≤ n ∧ Aside0 (out = partS X j) ∧ Aside0 (PS w v4 out #[.string base, .string snap, .slice A n c] 79 wr)) (fun _ v _ => n - (intOf v).toNat)
    case atStart => exact ⟨0, _, rfl, Nat.zero_le _, ⟨rfl⟩, P5⟩
    case round =>
      obtain ⟨j, out, rfl, hj, ho, PJ⟩ := hrel
      clear P5 x2
      have hlen : out.length ≤ 200000 := by rw [ho.out]; exact partS_le X j (rightS_text HRS.out).1 (rightS_text HRS.out).2 HW.out
      by_cases hlt : j < n
      · obtain ⟨b, off, rfl, hb, hx⟩ := CF_at H.out.row (by omega)
        have hxj := hx j hlt
        have hca := H.out.each j hlt
        obtain ⟨y, hy⟩ : ∃ y, y = l.getD j default := ⟨_, rfl⟩
        obtain ⟨p, hp⟩ : ∃ p, p = xs.getD j default := ⟨_, rfl⟩
        rw [← hp] at hxj hca
        rw [← hy] at hca
        have HRG := Aside0.mk (rangeAt_below hxj PJ.out.below hb)
        have HYL := Aside0.mk (show X.l[j]? = some y by
          have hl := HLEN.out
          rw [HX.out]
          show l[j]? = _
          rw [hy, List.getD_eq_getElem?_getD, List.getElem?_eq_getElem (by omega)]; rfl)
        have hwy : wtC y ≤ 10000 := Nat.le_trans (wtL_at X.l j y HYL.out) HW.out
        obtain ⟨key, inn, data, g'⟩ := y
        obtain ⟨A1, n1, c1, A2, n2, c2, A3, n3, c3, g⟩ := p
        obtain rfl : g = g' := hca.2
        have HCA := Aside0.mk hca.1
        simp only [wtC] at hwy
        have HN := Aside0.mk (show partS X (j + 1) = out ++ chgL ⟨key, inn, data, g⟩ by rw [partS_succ X j _ HYL.out, ho.out])
        have hkl := textL_le key (by omega)
        have hil := textL_le inn (by omega)
        clear hxj hy hp hca hx
        have hbW := below_alloc (Below.refl wr.heap.size wr) (.cells (encS ⟨A1, n1, c1, A2, n2, c2, A3, n3, c3, g⟩) 133)
        have PW := Aside0.mk (PJ.out.on hbW)
        have GY := Aside0.mk (blk_new wr (.cells (encS ⟨A1, n1, c1, A2, n2, c2, A3, n3, c3, g⟩) 133))
        have x3 := Kd.C_string (c := c1) (P := Try.prog) Try.underlying31 Try.underlying5 Try.underlying9 (Kd.C_below HCA.out.k PW.out.below)
        rw [str_bytes] at x3
        clear hbW
        go_wp2_with (refine load_S rfl (.tmp 29) rfl b (off + j * 4) ⟨A1, n1, c1, A2, n2, c2, A3, n3, c3, g⟩ rfl HRG.out ?_)
        generalize hWb : (wr.alloc (.cells (encS ⟨A1, n1, c1, A2, n2, c2, A3, n3, c3, g⟩) 133)) = Wb at *
        clear hWb HRG x3
        refine (text_calls none 0 0 [] rfl key Wb (Kd.C_nil _ _) (by omega) (by omega)).mono ?_
        rintro e w6 ⟨v36, rfl, hr6, hb6⟩
        have P6a := Aside0.mk (PW.out.on hb6)
        have G6a := Aside0.mk (blk_below GY.out hb6)
        obtain ⟨A36, c36, rfl, hle36, hC36⟩ := Kd.R_reads hr6
        have HC36 := Aside0.mk hC36
        have hL36 : ([] ++ textL key).length ≤ 20000 := by rw [List.nil_append]; omega
        have hL6 : (out ++ ([] ++ textL key)).length ≤ 300000 := by rw [List.length_append]; omega
        have HM6 := Aside0.mk (show out ++ ([] ++ textL key) = out ++ textL key by rw [List.nil_append])
        clear hr6 hb6 PW GY hle36 hC36
        cases g with
        | true =>
          go_wp2_with (at_builtin; first | (refine P6a.out.appRow (by decide) rfl (.tmp 31) (.tmp 36) rfl _ _ _ _ rfl rfl HC36.out (by omega) (by omega) ?_; generalize hm6 : out ++ ([] ++ textL key) = m6 at *; intro v6 w6b ho6 hg6; have P6 := Aside0.mk ho6; have G6 := Aside0.mk (blk_grown G6a.out hg6 (Kd.R_ne P6a.out.row G6a.out (by decide))); have x4 : w6b.cell? ⟨wr.heap.size, 3, none⟩ = some (.bool true) := (by rw [cell_of_row _ _ 3 _ 133 (0, 0) G6.out]; rfl); have hsz6 := Aside0.mk ho6.below.size; have HM7 := Aside0.mk (show m6 ++ [1] = partS X (j + 1) by rw [HN.out, HM6.out]; exact chgL_gone key inn data out); clear ho6 hg6) | (refine P6.out.app1 (by decide) rfl (.tmp 40) (.tmp 41) rfl 1 rfl rfl (by omega) ?_; intro v7 w7 ho7 hg7; have H7 := Aside0.mk ho7; clear ho7 hg7))
          go_roundw
          case rel =>
            refine ⟨j + 1, _, by go_num, by omega, HM7, H7⟩
          case measure => simp [intOf]; omega
        | false =>
          go_wp2_with (at_builtin; refine P6a.out.appRow (by decide) rfl (.tmp 31) (.tmp 36) rfl _ _ _ _ rfl rfl HC36.out (by omega) (by omega) ?_; generalize hm6 : out ++ ([] ++ textL key) = m6 at *; intro v6 w6b ho6 hg6; have P6 := Aside0.mk ho6; have G6 := Aside0.mk (blk_grown G6a.out hg6 (Kd.R_ne P6a.out.row G6a.out (by decide))); have x4 : w6b.cell? ⟨wr.heap.size, 3, none⟩ = some (.bool false) := (by rw [cell_of_row _ _ 3 _ 133 (0, 0) G6.out]; rfl); have hsz6 := Aside0.mk ho6.below.size; have HM7 := Aside0.mk (show m6 ++ [0] ++ textL inn ++ textL data = partS X (j + 1) by rw [HN.out, HM6.out]; exact chgL_live key inn data out); clear ho6 hg6)
          clear HN HM6 x4 HC36 P6a G6a PJ
          have P6' := Aside0.mk (P6.out.on (below_drew (Below.refl w6b.heap.size w6b)))
          have G6' := Aside0.mk (blk_below G6.out (below_drew (Below.refl w6b.heap.size w6b)))
          clear P6 G6
          have P6 := P6'
          have G6 := G6'
          clear P6' G6'
          refine wp_region_held_drew (S := fun w' => Below w.heap.size w w' ∧ w'.heap[wr.heap.size]? = some (.cells (encS ⟨A1, n1, c1, A2, n2, c2, A3, n3, c3, false⟩) 133 (0, 0))) (by kernel_rfl) ⟨P6.out.below, G6.out⟩ (fun hW => ?_)
          generalize w6b.drew = W at *
          refine wpAnyH_take (i := 0) (oi := ⟨some 43, _, _, _, _, _⟩) (v := v6) rfl (by kernel_rfl) (by kernel_rfl) (by kernel_rfl) (fun _ _ _ h => h) (.inl ⟨by rfl, fun W1 h1 => by go_simp⟩) hW ?_
          try simp only [Act.put, List.setIfInBounds_toArray, List.set_cons_zero, List.set_cons_succ]
          refine wpAnyH_take (i := 3) (oi := ⟨some 46, _, _, _, _, _⟩) (v := .pointer (some ⟨wr.heap.size, 0, none⟩)) rfl (by kernel_rfl) (by kernel_rfl) (by kernel_rfl) (fun _ _ _ h => h) (.inl ⟨by rfl, fun W1 h1 => by go_simp⟩) hW ?_
          try simp only [Act.put, List.setIfInBounds_toArray, List.set_cons_zero, List.set_cons_succ]
          refine wpAnyH_take (i := 4) (oi := ⟨some 47, _, _, _, _, _⟩) (v := .pointer (some ⟨wr.heap.size, 1, none⟩)) rfl (by kernel_rfl) (by kernel_rfl) (by kernel_rfl) (fun _ _ _ h => h) (.inl ⟨by rfl, fun W1 h1 => by go_simp⟩) hW ?_
          try simp only [Act.put, List.setIfInBounds_toArray, List.set_cons_zero, List.set_cons_succ]
          refine wpAnyH_take (i := 5) (oi := ⟨some 48, _, _, _, _, _⟩) (v := .slice A2 n2 c2) rfl (by kernel_rfl) (by kernel_rfl) (by kernel_rfl) (fun _ _ _ h => h) (.inl ⟨by rfl, fun W1 h1 => by (have x1 : W1.cell? ⟨wr.heap.size, 1, none⟩ = some (.slice A2 n2 c2) := (by rw [cell_of_row _ _ 1 _ 133 (0, 0) h1.2]; rfl)); go_simp⟩) hW ?_
          try simp only [Act.put, List.setIfInBounds_toArray, List.set_cons_zero, List.set_cons_succ]
          refine wpAnyH_take (i := 6) (oi := ⟨some 49, _, _, _, _, _⟩) (v := .string inn) rfl (by kernel_rfl) (by kernel_rfl) (by kernel_rfl) (fun _ _ _ h => h) (.inl ⟨by rfl, fun W1 h1 => by (have x1 := Kd.C_string (c := c2) (P := Try.prog) Try.underlying31 Try.underlying5 Try.underlying9 (Kd.C_below HCA.out.i h1.1); rw [str_bytes] at x1); go_simp⟩) hW ?_
          try simp only [Act.put, List.setIfInBounds_toArray, List.set_cons_zero, List.set_cons_succ]
          refine wpAnyH_ready (rs := [1]) (by kernel_rfl) (by simp) (AllReadyH.cons rfl (fun K1 hK1 => ?_) AllReadyH.nil)
          refine wp_zero (o := ⟨some 44, _, _, _, _, _⟩) rfl ?_
          have hb1 := below_alloc (Below.refl W.heap.size W) (.cells #[.int .u8 0] 5)
          refine hK1.out _ _ ⟨below_then P6.out.below P6.out.below.size hb1, blk_below G6.out hb1⟩ (fun hW => ?_)
          try simp only [Act.put, List.setIfInBounds_toArray, List.set_cons_zero, List.set_cons_succ]
          refine wpAnyH_ready (rs := [2]) (by kernel_rfl) (by simp) (AllReadyH.cons rfl (fun K3 hK3 => ?_) AllReadyH.nil)
          refine wp_app1 (o := ⟨some 45, _, _, _, _, _⟩) P6.out (by decide) (.tmp 43) (.tmp 44) rfl 0 rfl rfl (by omega) ?_
          intro v45 W3 ho45 hg45
          have P45' := Aside0.mk ho45
          have G45' := Aside0.mk (blk_grown G6.out hg45 (Kd.R_ne P6.out.row G6.out (by decide)))
          clear ho45 hg45 hb1
          refine hK3.out _ _ ⟨P45'.out.below, G45'.out⟩ (fun hW => ?_)
          try simp only [Act.put, List.setIfInBounds_toArray, List.set_cons_zero, List.set_cons_succ]
          refine wpAnyH_ready (rs := [7]) (by kernel_rfl) (by simp) (AllReadyH.cons rfl (fun K5 hK5 => ?_) AllReadyH.nil)
          go_simp
          refine (text_calls none 0 0 [] rfl inn W3 (Kd.C_nil _ _) (by omega) (by omega)).mono ?_
          rintro e W4 ⟨v50, rfl, hr50, hb50⟩
          have P45 := Aside0.mk (P45'.out.on hb50)
          have G45 := Aside0.mk (blk_below G45'.out hb50)
          rw [List.nil_append] at hr50
          obtain ⟨A50, c50, rfl, hle50, hC50⟩ := Kd.R_reads hr50
          have HC50 := Aside0.mk hC50
          clear hr50 hb50 hle50 hC50 P45' G45'
          refine hK5.out _ _ ⟨P45.out.below, G45.out⟩ (fun hW => ?_)
          try simp only [Act.put, List.setIfInBounds_toArray, List.set_cons_zero, List.set_cons_succ]
          refine wpAnyH_ready (rs := [8]) (by kernel_rfl) (by simp) (AllReadyH.cons rfl (fun K9 hK9 => ?_) AllReadyH.nil)
          refine wp_appRow (o := ⟨some 51, _, _, _, _, _⟩) P45.out (by decide) (.tmp 45) (.tmp 50) rfl _ _ _ _ rfl rfl HC50.out (by rw [List.length_append]; simp; omega) (by omega) ?_
          intro v51 W5 ho51 hg51
          have PZ := Aside0.mk ho51
          have GZ := Aside0.mk (blk_grown G45.out hg51 (Kd.R_ne P45.out.row G45.out (by decide)))
          clear hg51 ho51
          refine hK9.out _ _ ⟨PZ.out.below, GZ.out⟩ (fun hW => ?_)
          try simp only [Act.put, List.setIfInBounds_toArray, List.set_cons_zero, List.set_cons_succ]
          refine wpAnyH_take (i := 9) (oi := ⟨some 4, _, _, _, _, _⟩) (v := v51) rfl (by kernel_rfl) (by kernel_rfl) (by kernel_rfl) (fun _ _ _ h => h) (.inl ⟨by rfl, fun W1 h1 => by go_simp⟩) hW ?_
          try simp only [Act.put, List.setIfInBounds_toArray, List.set_cons_zero, List.set_cons_succ]
          refine wpAnyH_done (by kernel_rfl) ?_ _
          clear hW
          have x6 : W5.cell? ⟨wr.heap.size, 2, none⟩ = some (.slice A3 n3 c3) := by rw [cell_of_row _ _ 2 _ 133 (0, 0) GZ.out]; rfl
          have x7 := Kd.C_string (c := c3) (P := Try.prog) Try.underlying31 Try.underlying5 Try.underlying9 (Kd.C_below HCA.out.d PZ.out.below)
          rw [str_bytes] at x7
          have hL8 : (m6 ++ [0] ++ textL inn).length ≤ 400000 := by rw [List.length_append, List.length_append]; simp only [List.length_cons, List.length_nil]; omega
          generalize hm8 : m6 ++ [0] ++ textL inn = m8 at *
          go_wp2_with fail
          refine (text_calls none 0 0 [] rfl data W5 (Kd.C_nil _ _) (by omega) (by omega)).mono ?_
          rintro e w9 ⟨v9, rfl, hr9, hb9⟩
          have P9 := Aside0.mk (PZ.out.on hb9)
          rw [List.nil_append] at hr9
          obtain ⟨A9, c9, rfl, hle9, hC9⟩ := Kd.R_reads hr9
          have HC9 := Aside0.mk hC9
          have hL9 := textL_le data (by omega)
          clear hr9 hb9 hle9 hC9 x6 x7 PZ GZ
          go_wp2_with (at_builtin; refine P9.out.appRow (by decide) rfl (.tmp 52) (.tmp 57) rfl _ _ _ _ rfl rfl HC9.out (by omega) (by omega) ?_; intro v10 w10 ho10 hg10; have PA := Aside0.mk ho10; clear ho10 hg10)
          go_roundw
          case rel =>
            exact ⟨j + 1, _, by go_num, by omega, HM7, PA⟩
          case measure => simp [intOf]; omega
      · obtain rfl : j = n := by omega
        obtain ⟨A5, c5, rfl, hle5, hC5⟩ := Kd.R_reads PJ.out.row
        have HC5 := Aside0.mk hC5
        have HB := Aside0.mk (show Byt out by rw [ho.out]; exact partS_byt _ _)
        have HO := Aside0.mk (show out = bodyL X by
          have hl : X.l.length = j := by rw [HX.out]; exact HLEN.out
          rw [ho.out, ← partS_all X, hl])
        have hsl := sumN_lt out
        clear hC5 hle5
        go_wp2_with fail
        refine (sum_calls _ _ _ out rfl wr HC5.out HB.out).mono ?_
        rintro e w6 ⟨rfl, hb6⟩
        have P6 := Aside0.mk (PJ.out.on hb6)
        have HC6 := Aside0.mk (Kd.C_below HC5.out hb6)
        have PB := Aside0.mk (P6.out.on (below_alloc (Below.refl w6.heap.size w6) (.cells #[.int .u64 (sumN out : Int)] 103)))
        have QB := Aside0.mk (C64_at w6 [(sumN out : Int)] 103 _ rfl (by simp))
        simp only [List.map_cons, List.map_nil] at QB
        have HC7 := Aside0.mk (Kd.C_below HC6.out (below_alloc (Below.refl w6.heap.size w6) (.cells #[.int .u64 (sumN out : Int)] 103)))
        clear hb6 HC5 PJ
        go_wp2_with fail
        generalize (w6.alloc (.cells #[.int .u64 (sumN out : Int)] 103)) = w7 at *
        refine (CodB.fixed_calls _ _ out 4 (some ⟨w6.heap.size, 0, none⟩) 1 [(sumN out : Int)] w7 HC7.out (by omega) (by decide) (by decide) QB.out (by simp) (by intro x hx; simp at hx; omega)).mono ?_
        rintro e w8 ⟨v8, rfl, hr8, hb8⟩
        have P8 := Aside0.mk (PB.out.call hr8 hb8)
        clear hr8 hb8
        go_wp2
        rw [HP.out, ← HX.out]
        refine ⟨_, by rw [codeS, HR.out]; rfl, ?_, P8.out.below⟩
        rw [outS, HR.out, if_pos rfl, stmL, ← HO.out]
        have := P8.out.row
        simpa using this
end Go.Proofs.Ytfefpbnhpncmlaa.StmP
namespace Go.Proofs.Ytfefpbnhpncmlaa.StmR
open Go.RowKit Go.Proofs.Ytfefpbnhpncmlaa.EntL Go.Proofs.Ytfefpbnhpncmlaa.EntB Go.Proofs.Ytfefpbnhpncmlaa.EntC Go.Proofs.Ytfefpbnhpncmlaa.EntD Go.Proofs.Ytfefpbnhpncmlaa.EntE Go.Proofs.Ytfefpbnhpncmlaa.EntF Go.Proofs.Ytfefpbnhpncmlaa.CatR Go.Proofs.Ytfefpbnhpncmlaa.CatT Go.Proofs.Ytfefpbnhpncmlaa.CatU Go.Proofs.Ytfefpbnhpncmlaa.CatK Go.Proofs.Ytfefpbnhpncmlaa.CatS Go.Proofs.Ytfefpbnhpncmlaa.CatY Go.Proofs.Ytfefpbnhpncmlaa.RefG Go.Proofs.Ytfefpbnhpncmlaa.PtrB Go.Proofs.Ytfefpbnhpncmlaa.PtrG Go.Proofs.Ytfefpbnhpncmlaa.Agg Go.Proofs.Ytfefpbnhpncmlaa.B8 Go.Proofs.Ytfefpbnhpncmlaa.CodL Go.Proofs.Ytfefpbnhpncmlaa.CodA Go.Proofs.Ytfefpbnhpncmlaa.CodB Go.Proofs.Ytfefpbnhpncmlaa.CatL Go.Proofs.Ytfefpbnhpncmlaa.PtrA Go.Proofs.Ytfefpbnhpncmlaa.PtrE Go.Proofs.Ytfefpbnhpncmlaa.PtrF Go.Proofs.Ytfefpbnhpncmlaa.PBaseSigns Go.Proofs.YtfefpbnhpncmlaaW.PrintWords Go.Proofs.YtfefpbnhpncmlaaW.PrintLast Go.Proofs.YtfefpbnhpncmlaaW.PrintMore Go.Proofs.Ytfefpbnhpncmlaa.EntG Go.Proofs.Ytfefpbnhpncmlaa.StmA Go.Proofs.Ytfefpbnhpncmlaa.StmB Go.Proofs.Ytfefpbnhpncmlaa.StmC Go.Proofs.Ytfefpbnhpncmlaa.CrcC Go.Proofs.Ytfefpbnhpncmlaa.StmD Go.Proofs.Ytfefpbnhpncmlaa.StmE Go.Proofs.Ytfefpbnhpncmlaa.CrcL Go.Proofs.Ytfefpbnhpncmlaa.StmL Go.Proofs.Ytfefpbnhpncmlaa.StmF Go.Proofs.Ytfefpbnhpncmlaa.StmG Go.Proofs.Ytfefpbnhpncmlaa.StmH Go.Proofs.Ytfefpbnhpncmlaa.StmI Go.Proofs.Ytfefpbnhpncmlaa.StmJ Go.Proofs.Ytfefpbnhpncmlaa.StmK Go.Proofs.Ytfefpbnhpncmlaa.StmM Go.Proofs.Ytfefpbnhpncmlaa.StmN Go.Proofs.Ytfefpbnhpncmlaa.StmO Go.Proofs.Ytfefpbnhpncmlaa.StmP
set_option linter.unusedVariables false
set_option linter.unusedSimpArgs false

theorem run_min (x y : Int) (ats : Array TypeId) (ty : TypeId) (W : World) : (Builtin.min_ ats ty #[.int .i64 x, .int .i64 y]).run Try.prog W = .ok (.int .i64 (min x y)) W := by
  unfold Builtin.min_ Builtin.min2
  by_cases h : y < x
  · simp [h, Int.min_def, show ¬ x ≤ y from by omega]
  · simp [h, Int.min_def, show x ≤ y from by omega]
end Go.Proofs.Ytfefpbnhpncmlaa.StmR
namespace Go.Proofs.Ytfefpbnhpncmlaa.StmQ
open Go.RowKit Go.Proofs.Ytfefpbnhpncmlaa.EntL Go.Proofs.Ytfefpbnhpncmlaa.EntB Go.Proofs.Ytfefpbnhpncmlaa.EntC Go.Proofs.Ytfefpbnhpncmlaa.EntD Go.Proofs.Ytfefpbnhpncmlaa.EntE Go.Proofs.Ytfefpbnhpncmlaa.EntF Go.Proofs.Ytfefpbnhpncmlaa.CatR Go.Proofs.Ytfefpbnhpncmlaa.CatT Go.Proofs.Ytfefpbnhpncmlaa.CatU Go.Proofs.Ytfefpbnhpncmlaa.CatK Go.Proofs.Ytfefpbnhpncmlaa.CatS Go.Proofs.Ytfefpbnhpncmlaa.CatY Go.Proofs.Ytfefpbnhpncmlaa.RefG Go.Proofs.Ytfefpbnhpncmlaa.PtrB Go.Proofs.Ytfefpbnhpncmlaa.PtrG Go.Proofs.Ytfefpbnhpncmlaa.Agg Go.Proofs.Ytfefpbnhpncmlaa.B8 Go.Proofs.Ytfefpbnhpncmlaa.CodL Go.Proofs.Ytfefpbnhpncmlaa.CodA Go.Proofs.Ytfefpbnhpncmlaa.CodB Go.Proofs.Ytfefpbnhpncmlaa.CatL Go.Proofs.Ytfefpbnhpncmlaa.PtrA Go.Proofs.Ytfefpbnhpncmlaa.PtrE Go.Proofs.Ytfefpbnhpncmlaa.PtrF Go.Proofs.Ytfefpbnhpncmlaa.PBaseSigns Go.Proofs.YtfefpbnhpncmlaaW.PrintWords Go.Proofs.YtfefpbnhpncmlaaW.PrintLast Go.Proofs.YtfefpbnhpncmlaaW.PrintMore Go.Proofs.Ytfefpbnhpncmlaa.EntG Go.Proofs.Ytfefpbnhpncmlaa.StmA Go.Proofs.Ytfefpbnhpncmlaa.StmB Go.Proofs.Ytfefpbnhpncmlaa.StmC Go.Proofs.Ytfefpbnhpncmlaa.CrcC Go.Proofs.Ytfefpbnhpncmlaa.StmD Go.Proofs.Ytfefpbnhpncmlaa.StmE Go.Proofs.Ytfefpbnhpncmlaa.CrcL Go.Proofs.Ytfefpbnhpncmlaa.StmL Go.Proofs.Ytfefpbnhpncmlaa.StmF Go.Proofs.Ytfefpbnhpncmlaa.StmG Go.Proofs.Ytfefpbnhpncmlaa.StmH
set_option linter.unusedVariables false
set_option linter.unusedSimpArgs false

abbrev V41 : Value := .iface 190 (.agg #[.pointer (some ⟨1, 41, none⟩)])
set_option maxRecDepth 100000 in
theorem typeOf_run (W : World) : (callFunc 122 #[.iface 41 (.int .i64 11)]).run Try.prog W = .ok (.value V41) W := by kernel_rfl
set_option maxRecDepth 100000 in
theorem comparable_run (W : World) : (callMethod V41 "Comparable" #[]).run Try.prog W = .ok (.value (.bool true)) W := by kernel_rfl
set_option maxRecDepth 100000 in
theorem is123 (w : World) : Calls Try.prog 123 #[.iface 41 (.int .i64 11), .iface 41 (.int .i64 11), .bool true] w fun e w' => e = .returned (.bool true) ∧ w' = w := by
  obtain ⟨P, hP⟩ : ∃ P : Ending → World → Prop, P = (fun e w' => e = .returned (.bool true) ∧ w' = w) := ⟨_, rfl⟩
  rw [← hP]
  have HP := Aside0.mk hP
  clear hP
  have hq2 : ∀ W : World, (binOp .eql 147 (.iface 41 (.int .i64 11)) (.iface 41 (.int .i64 11))).run Try.prog W = .ok (.bool true) W := fun W => by kernel_rfl
  go_enter Try.func123, Try.ntmps123
  go_wp2
  go_loopw [0] (fun v0 wr => v0 = .iface 41 (.int .i64 11) ∧ wr = w) (fun _ _ => 0)
  case atStart => exact ⟨rfl, rfl⟩
  case round =>
    obtain ⟨rfl, rfl⟩ := hrel
    go_wp2
    rw [HP.out]
    exact ⟨rfl, rfl⟩
set_option maxRecDepth 100000 in
theorem is_form (w : World) : Calls Try.prog 99 #[.iface 41 (.int .i64 11), .iface 41 (.int .i64 11)] w fun e w' => e = .returned (.bool true) ∧ w' = w := by
  obtain ⟨P, hP⟩ : ∃ P : Ending → World → Prop, P = (fun e w' => e = .returned (.bool true) ∧ w' = w) := ⟨_, rfl⟩
  rw [← hP]
  have HP := Aside0.mk hP
  clear hP
  have hq : ∀ W : World, (binOp .eql 147 (.iface 41 (.int .i64 11)) .nilIface).run Try.prog W = .ok (.bool false) W := fun W => by kernel_rfl
  have ht := typeOf_run w
  go_enter Try.func99, Try.ntmps99
  go_wp2_with fail
  change Oper.upon _ _ _ _ _ ((callMethod V41 "Comparable" #[]).run Try.prog w)
  rw [comparable_run w, Oper.upon_value]
  go_wp2_with fail
  refine (is123 w).mono ?_
  rintro e w1 ⟨rfl, rfl⟩
  go_wp2
  rw [HP.out]
  exact ⟨rfl, rfl⟩
end Go.Proofs.Ytfefpbnhpncmlaa.StmQ
namespace Go.Proofs.Ytfefpbnhpncmlaa.CrcM
open Go.Proofs.Ytfefpbnhpncmlaa.CodL Go.Proofs.Ytfefpbnhpncmlaa.CrcL
set_option linter.unusedVariables false

theorem bitN_zero {s : Nat} (h : s < 4294967296) (h0 : bitN s = 0) : s = 0 := by
  unfold bitN at h0
  split at h0
  · rename_i h1
    have : s / 2 = poly := by
      have e : s / 2 ^^^ poly ^^^ poly = 0 ^^^ poly := by rw [h0]
      rw [Nat.xor_assoc, Nat.xor_self, Nat.xor_zero, Nat.zero_xor] at e
      exact e
    have h2 : poly = 2197175160 := rfl
    omega
  · omega
theorem bitsN_xor (n a b : Nat) : bitsN n (a ^^^ b) = bitsN n a ^^^ bitsN n b := by
  induction n generalizing a b with
  | zero => rfl
  | succ n ih => show bitsN n (bitN (a ^^^ b)) = _; rw [bitN_xor, ih]; rfl
theorem bitsN_zero {n s : Nat} (h : s < 4294967296) (h0 : bitsN n s = 0) : s = 0 := by
  induction n generalizing s with
  | zero => exact h0
  | succ n ih => exact bitN_zero h (ih (bitN_lt h) h0)
theorem bitsN_nil (n : Nat) : bitsN n 0 = 0 := by
  induction n with
  | zero => rfl
  | succ n ih => show bitsN n (bitN 0) = 0; exact ih
theorem bitsN_add (m n s : Nat) : bitsN m (bitsN n s) = bitsN (n + m) s := by
  induction n generalizing s with
  | zero => rw [Nat.zero_add]; rfl
  | succ n ih => rw [show n + 1 + m = (n + m) + 1 from by omega]; exact ih (bitN s)
theorem bitsN_two (n q : Nat) : bitsN n (2 ^ n * q) = q := by
  induction n generalizing q with
  | zero => simp [bitsN]
  | succ n ih =>
    show bitsN n (bitN (2 ^ (n + 1) * q)) = q
    rw [show 2 ^ (n + 1) * q = 2 * (2 ^ n * q) from by rw [Nat.pow_succ, Nat.mul_comm (2 ^ n) 2, Nat.mul_assoc], bitN_two, ih]
theorem stepN_xor (a d : Nat) (c : Int) : stepN (a ^^^ d) c = stepN a c ^^^ bitsN 8 d := by
  unfold stepN
  rw [← eight_bits, ← eight_bits, Nat.xor_assoc, Nat.xor_comm d, ← Nat.xor_assoc, bitsN_xor]
theorem crcN_cons (s : Nat) (c : Int) (l : List Int) : crcN s (c :: l) = crcN (stepN s c) l := rfl
theorem crcN_app (s : Nat) (a b : List Int) : crcN s (a ++ b) = crcN (crcN s a) b := by unfold crcN; rw [List.foldl_append]
/-- What is turned in the state goes on by itself. -/
theorem crcN_xor (l : List Int) (a d : Nat) : crcN (a ^^^ d) l = crcN a l ^^^ bitsN (8 * l.length) d := by
  induction l generalizing a d with
  | nil => rfl
  | cons c l ih =>
    rw [crcN_cons, crcN_cons, stepN_xor, ih, bitsN_add, List.length_cons]
    rw [show 8 + 8 * l.length = 8 * (l.length + 1) from by omega]
/-- One bit of a row of bytes is turned. -/
def flipL (l : List Int) (p : Nat) : List Int := l.set (p / 8) (((l.getD (p / 8) 0).toNat ^^^ 2 ^ (p % 8) : Nat) : Int)
theorem flipL_len (l : List Int) (p : Nat) : (flipL l p).length = l.length := by simp [flipL]
theorem flipL_byt {l : List Int} (h : Byt l) (p : Nat) : Byt (flipL l p) := by
  intro x hx
  unfold flipL at hx
  rcases List.mem_or_eq_of_mem_set hx with h1 | rfl
  · exact h x h1
  · have := h.getD (p / 8)
    have h2 : (l.getD (p / 8) 0).toNat ^^^ 2 ^ (p % 8) < 2 ^ 8 := Nat.xor_lt_two_pow (by omega) (Nat.pow_lt_pow_right (by decide) (Nat.mod_lt _ (by decide)))
    omega
theorem stepN_flip (s c r : Nat) (hr : r < 8) : stepN s ((c ^^^ 2 ^ r : Nat) : Int) = stepN s (c : Int) ^^^ bitsN (8 - r) 1 := by
  unfold stepN
  rw [Int.toNat_natCast, Int.toNat_natCast, ← eight_bits, ← eight_bits, ← Nat.xor_assoc, bitsN_xor]
  congr 1
  have := bitsN_two r 1
  rw [Nat.mul_one] at this
  rw [show (8 : Nat) = r + (8 - r) from by omega, ← bitsN_add, this]
  congr 1
  omega
theorem crcN_flip (s : Nat) (l : List Int) (hb : Byt l) (p : Nat) (h : p < 8 * l.length) : crcN s (flipL l p) = crcN s l ^^^ bitsN (8 * l.length - p) 1 := by
  have hk : p / 8 < l.length := by omega
  have e : l = l.take (p / 8) ++ l.getD (p / 8) 0 :: l.drop (p / 8 + 1) := by
    have h2 : l.getD (p / 8) 0 = l[p / 8] := by rw [List.getD_eq_getElem?_getD, List.getElem?_eq_getElem hk]; rfl
    rw [h2, List.getElem_cons_drop, List.take_append_drop]
  have ef : flipL l p = l.take (p / 8) ++ (((l.getD (p / 8) 0).toNat ^^^ 2 ^ (p % 8) : Nat) : Int) :: l.drop (p / 8 + 1) := by
    unfold flipL
    rw [List.set_eq_take_append_cons_drop, if_pos hk]
  have hc := hb.getD (p / 8)
  obtain ⟨c, hce⟩ : ∃ c : Nat, l.getD (p / 8) 0 = (c : Int) := ⟨(l.getD (p / 8) 0).toNat, by omega⟩
  rw [ef, crcN_app, crcN_cons]
  conv => rhs; rw [e]
  rw [crcN_app, crcN_cons, hce, Int.toNat_natCast, stepN_flip _ _ _ (Nat.mod_lt _ (by decide)), crcN_xor, bitsN_add]
  congr 2
  rw [List.length_append, List.length_cons, List.length_take, List.length_drop]
  omega
/-- The first bits of a burst are turned. -/
def flipsL (l : List Int) (at' by' : Nat) : Nat → List Int
  | 0 => l
  | i + 1 => if by'.testBit i then flipL (flipsL l at' by' i) (at' + i) else flipsL l at' by' i
theorem flipsL_len (l : List Int) (at' by' i : Nat) : (flipsL l at' by' i).length = l.length := by
  induction i with
  | zero => rfl
  | succ i ih => unfold flipsL; split
                 · rw [flipL_len, ih]
                 · exact ih
theorem flipsL_byt {l : List Int} (h : Byt l) (at' by' i : Nat) : Byt (flipsL l at' by' i) := by
  induction i with
  | zero => exact h
  | succ i ih => unfold flipsL; split
                 · exact flipL_byt ih _
                 · exact ih
theorem mod_succ (b i : Nat) : b % 2 ^ (i + 1) = b % 2 ^ i ^^^ (if b.testBit i then 2 ^ i else 0) := by
  apply Nat.eq_of_testBit_eq
  intro j
  rw [Nat.testBit_xor, Nat.testBit_mod_two_pow, Nat.testBit_mod_two_pow]
  cases hb : b.testBit i with
  | true =>
    rw [if_pos rfl, Nat.testBit_two_pow]
    by_cases h : i = j
    · subst h; simp [hb]
    · by_cases h2 : j < i
      · simp [h, h2, show j < i + 1 from by omega]
      · simp [h, h2, show ¬ j < i + 1 from by omega]
  | false =>
    rw [if_neg (by simp), Nat.zero_testBit]
    by_cases h : i = j
    · subst h; simp [hb]
    · by_cases h2 : j < i
      · simp [h2, show j < i + 1 from by omega]
      · simp [h2, show ¬ j < i + 1 from by omega]
theorem crcN_flips (s : Nat) (l : List Int) (hb : Byt l) (at' by' i : Nat) (h : at' + i ≤ 8 * l.length) : crcN s (flipsL l at' by' i) = crcN s l ^^^ bitsN (8 * l.length - at') (by' % 2 ^ i) := by
  induction i with
  | zero => rw [show by' % 2 ^ 0 = 0 from by simp [Nat.mod_one], bitsN_nil, Nat.xor_zero]; rfl
  | succ i ih =>
    have ih := ih (by omega)
    rw [mod_succ]
    unfold flipsL
    split
    · rw [crcN_flip _ _ (flipsL_byt hb _ _ _) _ (by rw [flipsL_len]; omega), ih, flipsL_len, bitsN_xor, Nat.xor_assoc]
      congr 2
      have := bitsN_two i 1
      rw [Nat.mul_one] at this
      rw [show 8 * l.length - at' = i + (8 * l.length - (at' + i)) from by omega, ← bitsN_add, this]
    · rw [Nat.xor_zero, ih]
theorem flipsL_zero (l : List Int) (at' i : Nat) : flipsL l at' 0 i = l := by
  induction i with
  | zero => rfl
  | succ i ih => unfold flipsL; rw [Nat.zero_testBit]; simpa using ih
/-- The last four bytes are the sum of the others: so the whole goes to one state. -/
def OkSum (l : List Int) : Prop := leL (l.drop (l.length - 4)) = (sumN (l.take (l.length - 4)) : Int)
theorem crcN_four (s : Nat) (a b c d : Nat) (ha : a < 256) (hb : b < 256) (hc : c < 256) (hd : d < 256) :
    crcN s [(a : Int), (b : Int), (c : Int), (d : Int)] = bitsN 32 (s ^^^ (a ^^^ 2 ^ 8 * b ^^^ 2 ^ 16 * c ^^^ 2 ^ 24 * d)) := by
  have one : ∀ (t x : Nat) (l : List Int), crcN t ((x : Int) :: l) = crcN (bitsN 8 (t ^^^ x)) l := fun t x l => by
    rw [crcN_cons, stepN, Int.toNat_natCast, eight_bits]
  rw [one, one, one, one]
  show bitsN 8 (bitsN 8 (bitsN 8 (bitsN 8 (s ^^^ a) ^^^ b) ^^^ c) ^^^ d) = _
  have e1 : bitsN 24 (2 ^ 24 * d) = d := bitsN_two 24 d
  have e2 : bitsN 16 (2 ^ 16 * c) = c := bitsN_two 16 c
  have e3 : bitsN 8 (2 ^ 8 * b) = b := bitsN_two 8 b
  have r1 : ∀ X, bitsN 32 X = bitsN 8 (bitsN 24 X) := fun X => (bitsN_add 8 24 X).symm
  have r2 : ∀ X, bitsN 24 X = bitsN 8 (bitsN 16 X) := fun X => (bitsN_add 8 16 X).symm
  have r3 : ∀ X, bitsN 16 X = bitsN 8 (bitsN 8 X) := fun X => (bitsN_add 8 8 X).symm
  generalize 2 ^ 8 * b = b8 at *
  generalize 2 ^ 16 * c = c16 at *
  generalize 2 ^ 24 * d = d24 at *
  have q1 : bitsN 24 (s ^^^ (a ^^^ b8 ^^^ c16 ^^^ d24)) = bitsN 24 (s ^^^ a ^^^ b8 ^^^ c16) ^^^ d := by
    rw [← e1, ← bitsN_xor 24]; simp only [Nat.xor_assoc]
  have q2 : bitsN 16 (s ^^^ a ^^^ b8 ^^^ c16) = bitsN 16 (s ^^^ a ^^^ b8) ^^^ c := by rw [← e2, ← bitsN_xor 16]
  have q3 : bitsN 8 (s ^^^ a ^^^ b8) = bitsN 8 (s ^^^ a) ^^^ b := by rw [← e3, ← bitsN_xor 8]
  rw [r1, q1, r2, q2, r3, q3]
theorem xor_sum (a b c d : Nat) (ha : a < 256) (hb : b < 256) (hc : c < 256) (hd : d < 256) : a ^^^ 2 ^ 8 * b ^^^ 2 ^ 16 * c ^^^ 2 ^ 24 * d = a + 256 * b + 65536 * c + 16777216 * d := by
  have step : ∀ (n x y : Nat), x < 2 ^ n → x ^^^ 2 ^ n * y = x + 2 ^ n * y := fun n x y hx => by
    apply Eq.symm
    rw [Nat.add_comm]
    apply Nat.eq_of_testBit_eq
    intro i
    rw [Nat.testBit_xor, Nat.testBit_two_pow_mul_add _ hx, Nat.testBit_two_pow_mul]
    by_cases h : i < n
    · simp [h, show ¬ n ≤ i from by omega]
    · have : x.testBit i = false := Nat.testBit_lt_two_pow (Nat.lt_of_lt_of_le hx (Nat.pow_le_pow_right (by decide) (by omega)))
      simp [h, this, show n ≤ i from by omega]
  rw [step 8 a b (by omega), step 16 _ c (by omega), step 24 _ d (by omega)]
theorem not_eq {s d : Nat} (hs : s < 4294967296) (hd : d < 4294967296) : s ^^^ d = 4294967295 ↔ d = 4294967295 - s := by
  have key : ∀ t, t < 4294967296 → t ^^^ 4294967295 = 4294967295 - t := fun t ht => by
    apply Nat.eq_of_testBit_eq
    intro i
    have a1 : (4294967295 : Nat).testBit i = decide (i < 32) := Nat.testBit_two_pow_sub_one 32 i
    have a2 : (4294967295 - t).testBit i = (decide (i < 32) && !t.testBit i) := by
      rw [show 4294967295 - t = 2 ^ 32 - (t + 1) from by omega]; exact Nat.testBit_two_pow_sub_succ (by omega) i
    rw [Nat.testBit_xor, a1, a2]
    by_cases h : i < 32
    · simp [h]
    · have : t.testBit i = false := Nat.testBit_lt_two_pow (Nat.lt_of_lt_of_le (show t < 2 ^ 32 from ht) (Nat.pow_le_pow_right (by decide) (by omega)))
      simp [h, this]
  rw [← key s hs]
  constructor
  · intro h
    rw [← h, ← Nat.xor_assoc, Nat.xor_self, Nat.zero_xor]
  · rintro rfl
    rw [← Nat.xor_assoc, Nat.xor_self, Nat.zero_xor]
theorem list4 {l : List Int} (h : l.length = 4) : ∃ a b c d, l = [a, b, c, d] := by
  match l, h with
  | [a, b, c, d], _ => exact ⟨a, b, c, d, rfl⟩
theorem okSum_iff {l : List Int} (hb : Byt l) (h4 : 4 ≤ l.length) : OkSum l ↔ crcN 4294967295 l = bitsN 32 4294967295 := by
  obtain ⟨m, hm⟩ : ∃ m, m = l.take (l.length - 4) := ⟨_, rfl⟩
  obtain ⟨t, ht⟩ : ∃ t, t = l.drop (l.length - 4) := ⟨_, rfl⟩
  have e : l = m ++ t := by rw [hm, ht, List.take_append_drop]
  obtain ⟨a, b, c, d, h⟩ := list4 (l := t) (by rw [ht, List.length_drop]; omega)
  have hbt : Byt t := by rw [ht]; exact hb.drop _
  have hbm : Byt m := by rw [hm]; exact hb.take _
  subst h
  have na := hbt a (by simp)
  have nb := hbt b (by simp)
  have nc := hbt c (by simp)
  have nd := hbt d (by simp)
  obtain ⟨a, rfl⟩ : ∃ a' : Nat, a = (a' : Int) := ⟨a.toNat, by omega⟩
  obtain ⟨b, rfl⟩ : ∃ a' : Nat, b = (a' : Int) := ⟨b.toNat, by omega⟩
  obtain ⟨c, rfl⟩ : ∃ a' : Nat, c = (a' : Int) := ⟨c.toNat, by omega⟩
  obtain ⟨d, rfl⟩ : ∃ a' : Nat, d = (a' : Int) := ⟨d.toNat, by omega⟩
  have hs := crcN_lt (s := 4294967295) (by decide) hbm
  unfold OkSum
  rw [← hm, ← ht]
  conv => rhs; rw [e]
  rw [crcN_app, crcN_four _ _ _ _ _ (by omega) (by omega) (by omega) (by omega), xor_sum _ _ _ _ (by omega) (by omega) (by omega) (by omega)]
  have hsum : sumN m = 4294967295 - crcN 4294967295 m := rfl
  rw [hsum]
  generalize crcN 4294967295 m = s at *
  have hd : a + 256 * b + 65536 * c + 16777216 * d < 4294967296 := by omega
  have hl : leL [(a : Int), (b : Int), (c : Int), (d : Int)] = ((a + 256 * b + 65536 * c + 16777216 * d : Nat) : Int) := by simp only [leL]; omega
  rw [hl]
  generalize a + 256 * b + 65536 * c + 16777216 * d = q at *
  constructor
  · intro h
    rw [(not_eq hs hd).2 (by omega)]
  · intro h
    have h1 : bitsN 32 (s ^^^ q ^^^ 4294967295) = 0 := by rw [bitsN_xor, h, Nat.xor_self]
    have h2 := bitsN_zero (Nat.xor_lt_two_pow (n := 32) (Nat.xor_lt_two_pow (n := 32) hs hd) (by decide)) h1
    have h3 : s ^^^ q = 4294967295 := by
      have := congrArg (fun x => x ^^^ 4294967295) h2
      rw [Nat.xor_assoc, Nat.xor_self, Nat.xor_zero, Nat.zero_xor] at this
      exact this
    have := (not_eq hs hd).1 h3
    omega
/-- Where something is turned, at most 32 bits side by side, the sum is another one. -/
theorem flips_bad {l : List Int} (hb : Byt l) (h4 : 4 ≤ l.length) (h : OkSum l) (at' by' : Nat) (ha : at' + 32 ≤ 8 * l.length) (hy : by' < 4294967296) (h0 : by' ≠ 0) : ¬ OkSum (flipsL l at' by' 32) := by
  rw [okSum_iff (flipsL_byt hb _ _ _) (by rw [flipsL_len]; exact h4)]
  rw [okSum_iff hb h4] at h
  rw [crcN_flips _ _ hb _ _ _ ha, h]
  intro h1
  have h2 : bitsN (8 * l.length - at') (by' % 2 ^ 32) = 0 := by
    have := congrArg (fun x => bitsN 32 4294967295 ^^^ x) h1
    rw [← Nat.xor_assoc, Nat.xor_self, Nat.zero_xor] at this
    exact this
  have hm : by' % 2 ^ 32 = by' := Nat.mod_eq_of_lt hy
  rw [hm] at h2
  exact h0 (bitsN_zero hy h2)
end Go.Proofs.Ytfefpbnhpncmlaa.CrcM
namespace Go.Proofs.Ytfefpbnhpncmlaa.StmS
open Go.RowKit Go.Proofs.Ytfefpbnhpncmlaa.EntL Go.Proofs.Ytfefpbnhpncmlaa.EntB Go.Proofs.Ytfefpbnhpncmlaa.EntC Go.Proofs.Ytfefpbnhpncmlaa.EntD Go.Proofs.Ytfefpbnhpncmlaa.EntE Go.Proofs.Ytfefpbnhpncmlaa.EntF Go.Proofs.Ytfefpbnhpncmlaa.CatR Go.Proofs.Ytfefpbnhpncmlaa.CatT Go.Proofs.Ytfefpbnhpncmlaa.CatU Go.Proofs.Ytfefpbnhpncmlaa.CatK Go.Proofs.Ytfefpbnhpncmlaa.CatS Go.Proofs.Ytfefpbnhpncmlaa.CatY Go.Proofs.Ytfefpbnhpncmlaa.RefG Go.Proofs.Ytfefpbnhpncmlaa.PtrB Go.Proofs.Ytfefpbnhpncmlaa.PtrG Go.Proofs.Ytfefpbnhpncmlaa.Agg Go.Proofs.Ytfefpbnhpncmlaa.B8 Go.Proofs.Ytfefpbnhpncmlaa.CodL Go.Proofs.Ytfefpbnhpncmlaa.CodA Go.Proofs.Ytfefpbnhpncmlaa.CodB Go.Proofs.Ytfefpbnhpncmlaa.CatL Go.Proofs.Ytfefpbnhpncmlaa.PtrA Go.Proofs.Ytfefpbnhpncmlaa.PtrE Go.Proofs.Ytfefpbnhpncmlaa.PtrF Go.Proofs.Ytfefpbnhpncmlaa.PBaseSigns Go.Proofs.YtfefpbnhpncmlaaW.PrintWords Go.Proofs.YtfefpbnhpncmlaaW.PrintLast Go.Proofs.YtfefpbnhpncmlaaW.PrintMore Go.Proofs.Ytfefpbnhpncmlaa.EntG Go.Proofs.Ytfefpbnhpncmlaa.StmA Go.Proofs.Ytfefpbnhpncmlaa.StmB Go.Proofs.Ytfefpbnhpncmlaa.StmC Go.Proofs.Ytfefpbnhpncmlaa.CrcC Go.Proofs.Ytfefpbnhpncmlaa.StmD Go.Proofs.Ytfefpbnhpncmlaa.StmE Go.Proofs.Ytfefpbnhpncmlaa.CrcL Go.Proofs.Ytfefpbnhpncmlaa.StmL Go.Proofs.Ytfefpbnhpncmlaa.StmF Go.Proofs.Ytfefpbnhpncmlaa.StmG Go.Proofs.Ytfefpbnhpncmlaa.StmH Go.Proofs.Ytfefpbnhpncmlaa.StmI Go.Proofs.Ytfefpbnhpncmlaa.StmJ Go.Proofs.Ytfefpbnhpncmlaa.StmK Go.Proofs.Ytfefpbnhpncmlaa.StmM Go.Proofs.Ytfefpbnhpncmlaa.StmN Go.Proofs.Ytfefpbnhpncmlaa.StmO Go.Proofs.Ytfefpbnhpncmlaa.StmP Go.Proofs.Ytfefpbnhpncmlaa.StmR Go.Proofs.Ytfefpbnhpncmlaa.CrcM
set_option linter.unusedVariables false
set_option linter.unusedSimpArgs false

abbrev Z86 : Array Value := #[.string ⟨#[]⟩, .string ⟨#[]⟩, .slice none 0 0]
/-- What reading tells: a stream of these bytes, or what is wrong. -/
def TellsReadS (w : World) (cell : World → Value → List Chg → Prop) (L : List Int) (zero : Value) (r : Ending) (w' : World) : Prop :=
  Below w.heap.size w w' ∧
  ((L.length < 8 ∧ r = .returned (.tuple #[zero, .int .i64 10])) ∨
   (8 ≤ L.length ∧ ¬ OkSum L ∧ r = .returned (.tuple #[zero, .int .i64 12])) ∨
   (8 ≤ L.length ∧ OkSum L ∧ NoS L ∧ r = .returned (.tuple #[zero, .int .i64 11])) ∨
   (∃ x v, RightS x ∧ stmL x = L ∧ r = .returned (.tuple #[.agg #[.string x.base, .string x.snap, v], .int .i64 0]) ∧ cell w' v x.l))
section
variable {ops : Array Oper} {o : Oper} {rest : List Oper} {a : Act} {Q : Exit → Act → World → Prop}
end
end Go.Proofs.Ytfefpbnhpncmlaa.StmS
namespace Go.Proofs.Ytfefpbnhpncmlaa.StmT
open Go.RowKit Go.Proofs.Ytfefpbnhpncmlaa.EntL Go.Proofs.Ytfefpbnhpncmlaa.EntB Go.Proofs.Ytfefpbnhpncmlaa.EntC Go.Proofs.Ytfefpbnhpncmlaa.EntD Go.Proofs.Ytfefpbnhpncmlaa.EntE Go.Proofs.Ytfefpbnhpncmlaa.EntF Go.Proofs.Ytfefpbnhpncmlaa.CatR Go.Proofs.Ytfefpbnhpncmlaa.CatT Go.Proofs.Ytfefpbnhpncmlaa.CatU Go.Proofs.Ytfefpbnhpncmlaa.CatK Go.Proofs.Ytfefpbnhpncmlaa.CatS Go.Proofs.Ytfefpbnhpncmlaa.CatY Go.Proofs.Ytfefpbnhpncmlaa.RefG Go.Proofs.Ytfefpbnhpncmlaa.PtrB Go.Proofs.Ytfefpbnhpncmlaa.PtrG Go.Proofs.Ytfefpbnhpncmlaa.Agg Go.Proofs.Ytfefpbnhpncmlaa.B8 Go.Proofs.Ytfefpbnhpncmlaa.CodL Go.Proofs.Ytfefpbnhpncmlaa.CodA Go.Proofs.Ytfefpbnhpncmlaa.CodB Go.Proofs.Ytfefpbnhpncmlaa.CatL Go.Proofs.Ytfefpbnhpncmlaa.PtrA Go.Proofs.Ytfefpbnhpncmlaa.PtrE Go.Proofs.Ytfefpbnhpncmlaa.PtrF Go.Proofs.Ytfefpbnhpncmlaa.PBaseSigns Go.Proofs.YtfefpbnhpncmlaaW.PrintWords Go.Proofs.YtfefpbnhpncmlaaW.PrintLast Go.Proofs.YtfefpbnhpncmlaaW.PrintMore Go.Proofs.Ytfefpbnhpncmlaa.EntG Go.Proofs.Ytfefpbnhpncmlaa.StmA Go.Proofs.Ytfefpbnhpncmlaa.StmB Go.Proofs.Ytfefpbnhpncmlaa.StmC Go.Proofs.Ytfefpbnhpncmlaa.CrcC Go.Proofs.Ytfefpbnhpncmlaa.StmD Go.Proofs.Ytfefpbnhpncmlaa.StmE Go.Proofs.Ytfefpbnhpncmlaa.CrcL Go.Proofs.Ytfefpbnhpncmlaa.StmL Go.Proofs.Ytfefpbnhpncmlaa.StmF Go.Proofs.Ytfefpbnhpncmlaa.StmG Go.Proofs.Ytfefpbnhpncmlaa.StmH Go.Proofs.Ytfefpbnhpncmlaa.StmI Go.Proofs.Ytfefpbnhpncmlaa.StmJ Go.Proofs.Ytfefpbnhpncmlaa.StmK Go.Proofs.Ytfefpbnhpncmlaa.StmM Go.Proofs.Ytfefpbnhpncmlaa.StmN Go.Proofs.Ytfefpbnhpncmlaa.StmO Go.Proofs.Ytfefpbnhpncmlaa.StmP Go.Proofs.Ytfefpbnhpncmlaa.StmR Go.Proofs.Ytfefpbnhpncmlaa.CrcM Go.Proofs.Ytfefpbnhpncmlaa.StmS
set_option linter.unusedVariables false
set_option linter.unusedSimpArgs false

theorem a86 (a b : ByteArray) (A : Option Addr) (n c : Nat) : (#[.string a, .string b, .slice A n c] : Array Value).all (·.oneCell') = true := by simp [Value.oneCell']
theorem a86Z : Z86.all (·.oneCell') = true := by simp [Value.oneCell']
end Go.Proofs.Ytfefpbnhpncmlaa.StmT
namespace Go.Proofs.Ytfefpbnhpncmlaa.StmV
open Go.RowKit Go.Proofs.Ytfefpbnhpncmlaa.EntL Go.Proofs.Ytfefpbnhpncmlaa.EntB Go.Proofs.Ytfefpbnhpncmlaa.EntC Go.Proofs.Ytfefpbnhpncmlaa.EntD Go.Proofs.Ytfefpbnhpncmlaa.EntE Go.Proofs.Ytfefpbnhpncmlaa.EntF Go.Proofs.Ytfefpbnhpncmlaa.CatR Go.Proofs.Ytfefpbnhpncmlaa.CatT Go.Proofs.Ytfefpbnhpncmlaa.CatU Go.Proofs.Ytfefpbnhpncmlaa.CatK Go.Proofs.Ytfefpbnhpncmlaa.CatS Go.Proofs.Ytfefpbnhpncmlaa.CatY Go.Proofs.Ytfefpbnhpncmlaa.RefG Go.Proofs.Ytfefpbnhpncmlaa.PtrB Go.Proofs.Ytfefpbnhpncmlaa.PtrG Go.Proofs.Ytfefpbnhpncmlaa.Agg Go.Proofs.Ytfefpbnhpncmlaa.B8 Go.Proofs.Ytfefpbnhpncmlaa.CodL Go.Proofs.Ytfefpbnhpncmlaa.CodA Go.Proofs.Ytfefpbnhpncmlaa.CodB Go.Proofs.Ytfefpbnhpncmlaa.CatL Go.Proofs.Ytfefpbnhpncmlaa.PtrA Go.Proofs.Ytfefpbnhpncmlaa.PtrE Go.Proofs.Ytfefpbnhpncmlaa.PtrF Go.Proofs.Ytfefpbnhpncmlaa.PBaseSigns Go.Proofs.YtfefpbnhpncmlaaW.PrintWords Go.Proofs.YtfefpbnhpncmlaaW.PrintLast Go.Proofs.YtfefpbnhpncmlaaW.PrintMore Go.Proofs.Ytfefpbnhpncmlaa.EntG Go.Proofs.Ytfefpbnhpncmlaa.StmA Go.Proofs.Ytfefpbnhpncmlaa.StmB Go.Proofs.Ytfefpbnhpncmlaa.StmC Go.Proofs.Ytfefpbnhpncmlaa.CrcC Go.Proofs.Ytfefpbnhpncmlaa.StmD Go.Proofs.Ytfefpbnhpncmlaa.StmE Go.Proofs.Ytfefpbnhpncmlaa.CrcL Go.Proofs.Ytfefpbnhpncmlaa.StmL Go.Proofs.Ytfefpbnhpncmlaa.StmF Go.Proofs.Ytfefpbnhpncmlaa.StmG Go.Proofs.Ytfefpbnhpncmlaa.StmH Go.Proofs.Ytfefpbnhpncmlaa.StmI Go.Proofs.Ytfefpbnhpncmlaa.StmJ Go.Proofs.Ytfefpbnhpncmlaa.StmK Go.Proofs.Ytfefpbnhpncmlaa.StmM Go.Proofs.Ytfefpbnhpncmlaa.StmN Go.Proofs.Ytfefpbnhpncmlaa.StmO Go.Proofs.Ytfefpbnhpncmlaa.StmP Go.Proofs.Ytfefpbnhpncmlaa.StmR Go.Proofs.Ytfefpbnhpncmlaa.CrcM Go.Proofs.Ytfefpbnhpncmlaa.StmS Go.Proofs.Ytfefpbnhpncmlaa.StmT Go.Proofs.Ytfefpbnhpncmlaa.StmQ
set_option linter.unusedVariables false
set_option linter.unusedSimpArgs false

abbrev Z79 : Array Value := #[.string ⟨#[]⟩, .string ⟨#[]⟩, .slice none 0 0]
theorem wpAnyH_mono {P : Program} {md : Region.Mode} {ops : Array Oper} {Q : Exit → Act → World → Prop} {S S' : World → Prop} (hS : ∀ w, S' w → S w) :
    ∀ {fuel : Nat} {listed : Array Bool} {a : Act} {w : World}, wpAnyH P md ops Q S' fuel listed a w → wpAnyH P md ops Q S fuel listed a w
  | 0, _, _, _, h => h
  | fuel + 1, _, _, _, h => ⟨h.1, fun i hi => wpOp_mono (fun a' w' h' => ⟨hS _ h'.1, wpAnyH_mono hS h'.2⟩) (h.2 i hi)⟩
/-- A stream's changes stand. -/
def cellS (w : World) (w' : World) (v : Value) (l : List Chg) : Prop := ∃ A c xs, v = .slice A l.length c ∧ CR w' A l.length xs l
theorem magic_str (l : List Int) (h : Byt l) : ((strOfNums l).toList == [83, 66, 88, 83]) = decide (l = [83, 66, 88, 83]) := by
  have := CatV.str_iff l [83, 66, 88, 83] h (by intro x hx; simp at hx; omega)
  rw [← this, show (strOfNums [83, 66, 88, 83]).toList = [83, 66, 88, 83] by decide +kernel]
theorem C8_moves {W W1 : World} {A : Option Addr} {n : Nat} {xs : List Int} (h : C8 W A n xs) (hk : ∀ ad, A = some ad → W1.heap[ad.block]? = W.heap[ad.block]?) : C8 W1 A n xs :=
  ⟨h.1, h.2.1, fun hn => by
    obtain ⟨ad, e, hc⟩ := h.2.2 hn
    refine ⟨ad, e, fun j p hj => ?_⟩
    obtain ⟨c, h1, h2, h3⟩ := hc j p hj
    refine ⟨c, h1, h2, fun i u hu => ?_⟩
    have hb : W1.heap[(ad.add (j * (Kd.int .u8).sz + i)).block]? = W.heap[(ad.add (j * (Kd.int .u8).sz + i)).block]? := by
      have e0 : (ad.add (j * (Kd.int .u8).sz + i)).block = ad.block := by unfold Addr.add; split <;> rfl
      rw [e0]; exact hk ad e
    exact (World.cell?_of_block hb).trans (h3 i u hu)⟩
theorem CA_moves {W W1 : World} {A1 : Option Addr} {n1 c1 : Nat} {A2 : Option Addr} {n2 c2 : Nat} {A3 : Option Addr} {n3 c3 : Nat} {y : Chg} (h : CA W A1 n1 c1 A2 n2 c2 A3 n3 c3 y) (hk : ∀ ad, (A1 = some ad ∨ A2 = some ad ∨ A3 = some ad) → W1.heap[ad.block]? = W.heap[ad.block]?) : CA W1 A1 n1 c1 A2 n2 c2 A3 n3 c3 y :=
  ⟨C8_moves h.k fun ad e => hk ad (.inl e), C8_moves h.i fun ad e => hk ad (.inr (.inl e)), C8_moves h.d fun ad e => hk ad (.inr (.inr e)), h.h1, h.h2, h.h3⟩
/-- A change's bytes lie apart. -/
def FarP (w : World) (g gx : Nat) (own : Option Nat) (W : World) (x : Sl) : Prop := ∀ ad, (x.A1 = some ad ∨ x.A2 = some ad ∨ x.A3 = some ad) → ad.block ≠ g ∧ ad.block ≠ gx ∧ ad.block ≠ w.heap.size ∧ some ad.block ≠ own ∧ ad.block < W.heap.size
structure IU (w : World) (g gx : Nat) (l : List Int) (bad : Bool) (xb xs : ByteArray) (vL : Value) (cs : List Chg) (sl : List Sl) (W : World) : Prop where
  rd : RB w g l bad W
  hx : W.heap[gx]? = some (.cells #[.string xb, .string xs, vL] 79 (0, 0))
  h2 : W.heap[w.heap.size]? = some (.cells Z79 79 (0, 0))
  gle : w.heap.size ≤ gx
  ne : gx ≠ w.heap.size
  ng : gx ≠ g
  n2 : w.heap.size ≠ g
  row : Kd.R kS 133 W w.heap.size (fun _ => True) vL sl
  len : cs.length = sl.length
  each : ∀ i, i < sl.length → (sl.getD i default).ca W (cs.getD i default)
  far : ∀ i, i < sl.length → FarP w g gx vL.ownBlock W (sl.getD i default)
theorem kS_types (t : Nat) (h : t ≠ 133) : ∀ q, q ∈ 133 :: kS.E → q ≠ t := by
  intro q hq
  simp [kS, kF] at hq
  omega
section
variable {w : World} {g gx : Nat} {l l' : List Int} {bad bad' : Bool} {xb xs : ByteArray} {vL v1 : Value} {cs : List Chg} {sl : List Sl} {W W1 w1 : World}
theorem IU.blkG (h : IU w g gx l bad xb xs vL cs sl W) : ∃ cells, W.heap[g]? = some (.cells cells 149 (0, 0)) := by
  obtain ⟨A, c, _, _, h3⟩ := h.rd.blk
  exact ⟨_, h3⟩
theorem IU.keep (h : IU w g gx l bad xb xs vL cs sl W) (h1 : RB w g l' bad' W1) (hk : KeepBut W W1 g none) : IU w g gx l' bad' xb xs vL cs sl W1 := by
  obtain ⟨cells, hg⟩ := h.blkG
  refine ⟨h1, hk.blk h.hx h.ng (by simp), hk.blk h.h2 h.n2 (by simp), h.gle, h.ne, h.ng, h.n2, ?_, h.len, fun i hi => ⟨CA_moves (h.each i hi).1 fun ad e => ?_, (h.each i hi).2⟩, fun i hi ad e => ?_⟩
  · exact Kd.R_mono (Kd.R_keep (Kd.R_types h.row hg (kS_types 149 (by decide))) hk (fun k hk => hk.2)) (fun _ _ => trivial)
  · obtain ⟨a1, a2, a3, a4, a5⟩ := h.far i hi ad e
    exact hk.2 _ a5 a1 (by simp)
  · obtain ⟨a1, a2, a3, a4, a5⟩ := h.far i hi ad e
    exact ⟨a1, a2, a3, a4, Nat.lt_of_lt_of_le a5 hk.1⟩
theorem IU.on (h : IU w g gx l bad xb xs vL cs sl W) (hb : Below W.heap.size W W1) : IU w g gx l bad xb xs vL cs sl W1 := h.keep (h.rd.on hb) (KeepBut.of_below hb g none)
theorem IU.push (h : IU w g gx l bad xb xs vL cs sl W) {p : Sl} {y : Chg} (hp : p.ca W y) (hf : FarP w g gx vL.ownBlock W p)
    (h1 : Kd.R kS 133 w1 w.heap.size (fun _ => True) v1 (sl ++ [p])) (h2 : Below w.heap.size w w1) (h3 : W.grownBy w1 vL.ownBlock) (h4 : v1.ownBlock = vL.ownBlock ∨ ∃ b, v1.ownBlock = some b ∧ W.heap.size ≤ b) :
    IU w g gx l bad xb xs v1 (cs ++ [y]) (sl ++ [p]) (w1.setCell ⟨gx, 2, none⟩ v1) := by
  obtain ⟨cells, hg⟩ := h.blkG
  have eg := blk_grown hg h3 (Kd.R_ne h.row hg (by decide))
  have ex := blk_grown h.hx h3 (Kd.R_ne h.row h.hx (by decide))
  have e2 := blk_grown h.h2 h3 (Kd.R_ne h.row h.h2 (by decide))
  have mv : ∀ k, k ≠ gx → some k ≠ vL.ownBlock → k < W.heap.size → (w1.setCell ⟨gx, 2, none⟩ v1).heap[k]? = W.heap[k]? := fun k a1 a2 a3 =>
    (heap_setCell_other _ _ _ _ a1).trans (h3.block k a3 a2)
  have fr : ∀ x, FarP w g gx vL.ownBlock W x → FarP w g gx v1.ownBlock (w1.setCell ⟨gx, 2, none⟩ v1) x := fun x hx ad e => by
    obtain ⟨a1, a2, a3, a4, a5⟩ := hx ad e
    refine ⟨a1, a2, a3, ?_, by rw [World.size_setCell]; exact Nat.lt_of_lt_of_le a5 h3.size⟩
    rcases h4 with h4 | ⟨b, h4, h5⟩
    · rw [h4]; exact a4
    · rw [h4]
      intro he
      injection he with he
      omega
  have sp : ∀ i, i < (sl ++ [p]).length → (i < sl.length ∧ (sl ++ [p]).getD i default = sl.getD i default ∧ (cs ++ [y]).getD i default = cs.getD i default) ∨ (i = sl.length ∧ (sl ++ [p]).getD i default = p ∧ (cs ++ [y]).getD i default = y) := fun i hi => by
    rw [List.length_append] at hi
    simp only [List.length_cons, List.length_nil] at hi
    have hl := h.len
    by_cases hlt : i < sl.length
    · left
      refine ⟨hlt, ?_, ?_⟩
      · rw [List.getD_eq_getElem?_getD, List.getD_eq_getElem?_getD, List.getElem?_append_left hlt]
      · rw [List.getD_eq_getElem?_getD, List.getD_eq_getElem?_getD, List.getElem?_append_left (by omega)]
    · right
      obtain rfl : i = sl.length := by omega
      refine ⟨rfl, ?_, ?_⟩
      · rw [List.getD_eq_getElem?_getD, List.getElem?_append_right (by omega)]; simp
      · rw [List.getD_eq_getElem?_getD, List.getElem?_append_right (by omega), hl]; simp
  refine ⟨h.rd.keep (h2.setCell h.gle _) ((heap_setCell_other _ _ _ _ (Ne.symm h.ng)).trans (eg.trans hg.symm)), ?_, blk_far e2 (by simp; exact Ne.symm h.ne) _, h.gle, h.ne, h.ng, h.n2, ?_, by rw [List.length_append, List.length_append, h.len]; rfl, fun i hi => ?_, fun i hi => ?_⟩
  · rw [heap_setCell_same _ _ _ _ _ _ ex]; rfl
  · exact Kd.R_mono (Kd.R_set h1 ex (kS_types 79 (by decide)) _ _) (fun _ _ => trivial)
  · rcases sp i hi with ⟨hlt, e1, e3⟩ | ⟨_, e1, e3⟩
    · rw [e1, e3]
      exact ⟨CA_moves (h.each i hlt).1 fun ad e => (have a := h.far i hlt ad e; mv _ a.2.1 a.2.2.2.1 a.2.2.2.2), (h.each i hlt).2⟩
    · rw [e1, e3]
      exact ⟨CA_moves hp.1 fun ad e => (have a := hf ad e; mv _ a.2.1 a.2.2.2.1 a.2.2.2.2), hp.2⟩
  · rcases sp i hi with ⟨hlt, e1, e3⟩ | ⟨_, e1, e3⟩
    · rw [e1]; exact fr _ (h.far i hlt)
    · rw [e1]; exact fr _ hf
/-- What is told. -/
theorem IU.cell (h : IU w g gx l bad xb xs vL cs sl W) (b : Array Value) : cellS w (W.setRow w.heap.size b) vL cs := by
  have hr : Kd.R kS 133 (W.setRow w.heap.size b) w.heap.size (fun _ => True) vL sl :=
    Kd.R_mono (Kd.R_step (Kd.R_types h.row h.h2 (kS_types 79 (by decide))) (fun k hk _ => setRow_other _ _ _ _ hk.2)) (fun _ _ => trivial)
  obtain ⟨A, c, e, _, hc⟩ := Kd.R_reads hr
  refine ⟨A, c, sl, by rw [h.len]; exact e, ⟨by rw [h.len]; exact hc, rfl, fun i hi => ?_⟩⟩
  rw [h.len] at hi
  exact ⟨CA_moves (h.each i hi).1 fun ad e => setRow_other _ _ _ _ (h.far i hi ad e).2.2.1, (h.each i hi).2⟩
theorem IU.cr (h : IU w g gx l bad xb xs vL cs sl W) : ∃ A c, vL = .slice A cs.length c ∧ CR W A cs.length sl cs := by
  obtain ⟨A, c, e, _, hc⟩ := Kd.R_reads h.row
  refine ⟨A, c, by rw [h.len]; exact e, ⟨by rw [h.len]; exact hc, rfl, fun i hi => h.each i (by rw [h.len] at hi; exact hi)⟩⟩
end
end Go.Proofs.Ytfefpbnhpncmlaa.StmV
