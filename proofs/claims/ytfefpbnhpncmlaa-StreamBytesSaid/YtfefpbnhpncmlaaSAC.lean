/- Own texts, one behind the other, each with what the claim uses of it: StmN StmO StmP StmR StmQ CrcM StmS StmT StmV StmU StmX. -/
import Derived.Test.YtfefpbnhpncmlaaChecked
import GoSem.Claim
import GoSem.ClaimJoined
import GoSem.ClaimMapViews
import Derived.JoinedTies
import Derived.KernelRfl
import Derived.Test.YtfefpbnhpncmlaaProg
import Derived.Below
import Derived.Deep.Draws
import Derived.Deep.AppendLies
import Derived.Maps.AppendAt
import Derived.OwnWalk
import Derived.Laws.BytesArg
import Derived.Laws.MakeOwn
import Derived.Laws.OwnMore
import Derived.Deep.OwnRows
import Derived.Tactics
import Derived.Lib.ConvBytes
import Derived.Laws.Slices
import Derived.WalkKit
import Derived.RowKit3
import Derived.Deep.LoopGhost
import Derived.Deep.QuietTactic
import Derived.BigQuiet
import Derived.WideLaws
import Derived.Deep.DeepCutAuto
import Derived.Deep.CutBlock
import Derived.Deep.RegionHeld3
import Derived.Laws.Rows
import Derived.Lib.AppendStr
import Derived.ArgAppend
import Derived.Laws.IdiomCopy
import Derived.OrdersHeld
import Derived.Laws.BitsLemmas
import Derived.RowKit
import Derived.Laws.StructEq
import Derived.Deep.Slices
import Derived.Shelf.Strconv.Itoa0
import Derived.Outline
import Derived.Lib.EndianBits
import Derived.Deep.WholeRow
import Derived.WalkSpells
import Derived.WalkSmall
import Derived.Laws.Tables
import Derived.Deep.MidRow
import Derived.Laws.CopyOwn
import Derived.Laws.Cover3
import Derived.LoopN
import Derived.Lib.SlBytesConst
import Derived.Lib.SmallJoins
import Derived.OpenShut
import Derived.SizedLaws
import Derived.ChangeSlices
import Derived.ProofKit
import Derived.ShutString
import Derived.ChangeOld
import Derived.Test.YtfefpbnhpncmlaaWSized
import Derived.Test.YtfefpbnhpncmlaaWWords
import Derived.Test.YtfefpbnhpncmlaaSAA
import Derived.Test.YtfefpbnhpncmlaaSAB
namespace Go.Proofs.Ytfefpbnhpncmlaa.StmN
open Go.RowKit Go.Proofs.Ytfefpbnhpncmlaa.EntL Go.Proofs.Ytfefpbnhpncmlaa.EntB Go.Proofs.Ytfefpbnhpncmlaa.EntC Go.Proofs.Ytfefpbnhpncmlaa.EntD Go.Proofs.Ytfefpbnhpncmlaa.EntE Go.Proofs.Ytfefpbnhpncmlaa.EntF Go.Proofs.Ytfefpbnhpncmlaa.CatR Go.Proofs.Ytfefpbnhpncmlaa.CatT Go.Proofs.Ytfefpbnhpncmlaa.CatU Go.Proofs.Ytfefpbnhpncmlaa.CatK Go.Proofs.Ytfefpbnhpncmlaa.CatS Go.Proofs.Ytfefpbnhpncmlaa.CatY Go.Proofs.Ytfefpbnhpncmlaa.RefG Go.Proofs.Ytfefpbnhpncmlaa.PtrB Go.Proofs.Ytfefpbnhpncmlaa.PtrG Go.Proofs.Ytfefpbnhpncmlaa.Agg Go.Proofs.Ytfefpbnhpncmlaa.B8 Go.Proofs.Ytfefpbnhpncmlaa.CodL Go.Proofs.Ytfefpbnhpncmlaa.CodA Go.Proofs.Ytfefpbnhpncmlaa.CodB Go.Proofs.Ytfefpbnhpncmlaa.CatL Go.Proofs.Ytfefpbnhpncmlaa.PtrA Go.Proofs.Ytfefpbnhpncmlaa.PtrE Go.Proofs.Ytfefpbnhpncmlaa.PtrF Go.Proofs.Ytfefpbnhpncmlaa.PBaseSigns Go.Proofs.YtfefpbnhpncmlaaW.PrintWords Go.Proofs.YtfefpbnhpncmlaaW.PrintLast Go.Proofs.YtfefpbnhpncmlaaW.PrintMore Go.Proofs.Ytfefpbnhpncmlaa.EntG Go.Proofs.Ytfefpbnhpncmlaa.StmA Go.Proofs.Ytfefpbnhpncmlaa.StmB Go.Proofs.Ytfefpbnhpncmlaa.StmC Go.Proofs.Ytfefpbnhpncmlaa.CrcC Go.Proofs.Ytfefpbnhpncmlaa.StmD Go.Proofs.Ytfefpbnhpncmlaa.StmE Go.Proofs.Ytfefpbnhpncmlaa.CrcL Go.Proofs.Ytfefpbnhpncmlaa.StmL Go.Proofs.Ytfefpbnhpncmlaa.StmF Go.Proofs.Ytfefpbnhpncmlaa.StmG Go.Proofs.Ytfefpbnhpncmlaa.StmH Go.Proofs.Ytfefpbnhpncmlaa.StmI Go.Proofs.Ytfefpbnhpncmlaa.StmJ Go.Proofs.Ytfefpbnhpncmlaa.StmK Go.Proofs.Ytfefpbnhpncmlaa.StmM
set_option linter.unusedVariables false
set_option linter.unusedSimpArgs false

/-- What lies between the magic and the sum. -/
def rest0 (L : List Int) : List Int := (L.take (L.length - 4)).drop 4
theorem stmL_take (x : Stm) : (stmL x).take ((stmL x).length - 4) = bodyL x := by
  rw [stmL_len, Nat.add_sub_cancel, stmL]
  exact List.take_left' rfl
theorem stmL_drop (x : Stm) : (stmL x).drop ((stmL x).length - 4) = fixedL 4 (sumN (bodyL x)) := by
  rw [stmL_len, Nat.add_sub_cancel, stmL]
  exact List.drop_left' rfl
theorem stmL_sum (x : Stm) : leL ((stmL x).drop ((stmL x).length - 4)) = (sumN ((stmL x).take ((stmL x).length - 4)) : Int) := by
  rw [stmL_take, stmL_drop, leL_fixedL]
  have := sumN_lt (bodyL x)
  omega
theorem bodyL_eq (x : Stm) : bodyL x = [83, 66, 88, 83] ++ (textL x.base ++ (textL x.snap ++ (shortL x.l.length ++ x.l.flatMap chgL))) := by
  simp [bodyL, List.append_assoc]
theorem rest0_stmL (x : Stm) : rest0 (stmL x) = textL x.base ++ (textL x.snap ++ (shortL x.l.length ++ x.l.flatMap chgL)) := by
  rw [rest0, stmL_take, bodyL_eq]; rfl
theorem magic_stmL (x : Stm) : (stmL x).take 4 = [83, 66, 88, 83] := by
  rw [stmL, bodyL_eq]; rfl
theorem textL_ne (s : ByteArray) : textL s ≠ [] := by
  intro h
  have h1 := congrArg List.length h
  rw [textL, List.length_append] at h1
  have : 0 < (shortL s.size).length := glen_pos _
  rw [List.length_nil] at h1
  omega
theorem stmL_len8 (x : Stm) : 8 ≤ (stmL x).length := by
  rw [stmL_len, bodyL_eq]
  simp
theorem rest0_len (L : List Int) : (rest0 L).length = L.length - 8 := by simp [rest0]; omega
/-- The bytes of no right stream. -/
def NoS (L : List Int) : Prop := ∀ x, RightS x → stmL x ≠ L
/-- Where the program's reader stands behind some changes. -/
structure Inv (L : List Int) (base snap : ByteArray) (n j : Nat) (cs : List Chg) (rest : List Int) (bad : Bool) : Prop where
  len : cs.length = j
  wt : bad = false → wtL cs + rest.length ≤ L.length
  on : ∀ x, RightS x → stmL x = L → base = x.base ∧ snap = x.snap ∧ n = x.l.length ∧ cs = x.l.take j ∧ rest = (x.l.drop j).flatMap chgL ∧ bad = false
/-- The program's head. -/
def headR (L : List Int) : ByteArray × ByteArray × Int × List Int × Bool :=
  let a := textR 63 (rest0 L) false
  let b := textR 63 a.2.1 a.2.2
  let n := StmD.numR 65536 b.2.1 b.2.2
  (a.1, b.1, n.1, n.2.1, n.2.2)
theorem rightS_text {x : Stm} (h : RightS x) : x.base.size ≤ 63 ∧ x.snap.size ≤ 63 := ⟨h.base, (namedB_le h.snap).2⟩
theorem headR_ok {x : Stm} (h : RightS x) : headR (stmL x) = (x.base, x.snap, (x.l.length : Int), x.l.flatMap chgL, false) := by
  unfold headR
  rw [rest0_stmL, textR_ok 63 (by decide) _ (rightS_text h).1]
  simp only
  rw [textR_ok 63 (by decide) _ (rightS_text h).2]
  simp only
  rw [numR_ok 65536 (by decide) _ h.len]
theorem headR_len (L : List Int) : (headR L).2.2.2.2 = false → (headR L).2.2.2.1.length ≤ L.length := by
  intro h
  unfold headR at *
  simp only at *
  obtain ⟨a1, a2⟩ := numR_wt h
  obtain ⟨b1, b2⟩ := textR_wt a1
  obtain ⟨c1, c2⟩ := textR_wt b1
  have := rest0_len L
  omega
theorem inv_start (L : List Int) : Inv L (headR L).1 (headR L).2.1 (headR L).2.2.1.toNat 0 [] (headR L).2.2.2.1 (headR L).2.2.2.2 :=
  ⟨rfl, fun h => by rw [wtL_nil]; have := headR_len L h; omega, fun x hx h => by
    subst h
    rw [headR_ok hx]
    exact ⟨rfl, rfl, by simp, rfl, rfl, rfl⟩⟩
theorem drop_cons_at {l : List Chg} {j : Nat} (h : j < l.length) : ∃ c, l[j]? = some c ∧ l.drop j = c :: l.drop (j + 1) :=
  ⟨l[j], List.getElem?_eq_getElem h, by rw [List.getElem_cons_drop]⟩
theorem inv_step {L : List Int} {base snap : ByteArray} {n j : Nat} {cs : List Chg} {rest : List Int} {bad : Bool} (h : Inv L base snap n j cs rest bad) (hj : j < n) :
    Inv L base snap n (j + 1) (cs ++ [(chgR rest bad).1]) (chgR rest bad).2.1 (chgR rest bad).2.2 :=
  ⟨by rw [List.length_append, h.len]; rfl, fun hb => by
    obtain ⟨h1, h2⟩ := chgR_wt hb
    have := h.wt h1
    rw [wtL_snoc]
    omega, fun x hx hL => by
    obtain ⟨e1, e2, e3, e4, e5, e6⟩ := h.on x hx hL
    obtain ⟨c, hc, hd⟩ := drop_cons_at (show j < x.l.length by omega)
    have ok := chgR_ok (hx.all j c hc) ((x.l.drop (j + 1)).flatMap chgL)
    rw [e5, e6, hd, List.flatMap_cons, ok]
    refine ⟨e1, e2, e3, ?_, rfl, rfl⟩
    rw [List.take_add_one, hc, e4]; rfl⟩
theorem inv_bad {L : List Int} {base snap : ByteArray} {n j : Nat} {cs : List Chg} {rest : List Int} (h : Inv L base snap n j cs rest true) : NoS L := fun x hx hL => by
  have := (h.on x hx hL).2.2.2.2.2
  cases this
theorem inv_rest {L : List Int} {base snap : ByteArray} {n : Nat} {cs : List Chg} {rest : List Int} {bad : Bool} (h : Inv L base snap n n cs rest bad) (hr : rest ≠ []) : NoS L := fun x hx hL => by
  obtain ⟨e1, e2, e3, e4, e5, e6⟩ := h.on x hx hL
  rw [e3, List.drop_length] at e5
  exact hr e5
theorem inv_end {L : List Int} {base snap : ByteArray} {n : Nat} {cs : List Chg} {rest : List Int} {bad : Bool} (h : Inv L base snap n n cs rest bad) (x : Stm) (hx : RightS x) (hL : stmL x = L) : x = ⟨base, snap, cs⟩ := by
  obtain ⟨e1, e2, e3, e4, e5, e6⟩ := h.on x hx hL
  rw [e3, List.take_length] at e4
  obtain ⟨b, s, l⟩ := x
  simp only at e1 e2 e4
  rw [e1, e2, e4]
/-- Two right streams of the same bytes are one. -/
theorem loop_inv {x : Stm} (hx : RightS x) (j : Nat) (hj : j ≤ x.l.length) : ∃ cs rest bad, Inv (stmL x) x.base x.snap x.l.length j cs rest bad := by
  induction j with
  | zero =>
    have := inv_start (stmL x)
    rw [headR_ok hx] at this
    simp only [Int.toNat_natCast] at this
    exact ⟨_, _, _, this⟩
  | succ j ih =>
    obtain ⟨cs, rest, bad, h⟩ := ih (by omega)
    exact ⟨_, _, _, inv_step h (by omega)⟩
theorem stmL_inj {x y : Stm} (hx : RightS x) (hy : RightS y) (h : stmL x = stmL y) : x = y := by
  obtain ⟨cs, rest, bad, h1⟩ := loop_inv hx x.l.length (Nat.le_refl _)
  rw [inv_end h1 x hx rfl, inv_end h1 y hy h.symm]
/-- The document's head. -/
def headF (L : List Int) : ByteArray × ByteArray × List Int :=
  let a := rtextF (rest0 L)
  let b := rtextF a.2
  (a.1, b.1, b.2)
theorem headF_ok {x : Stm} (h : RightS x) : headF (stmL x) = (x.base, x.snap, shortL x.l.length ++ x.l.flatMap chgL) := by
  unfold headF
  have := rightS_text h
  rw [rest0_stmL, rtextF_ok _ (by omega)]
  simp only
  rw [rtextF_ok _ (by omega)]
theorem headF_len (L : List Int) : (headF L).2.2.length ≤ L.length := by
  unfold headF
  have h1 := (rtextF_wt (rest0 L)).1
  have h2 := (rtextF_wt (rtextF (rest0 L)).2).1
  have := rest0_len L
  simp only
  omega
/-- The number of changes is no number, or too great. -/
theorem headF_num {L : List Int} (h : badN (headF L).2.2 65536 = true) : NoS L := fun x hx hL => by
  subst hL
  rw [headF_ok hx] at h
  unfold badN at h
  have hn := hx.len
  rw [readShort_shortL _ (by omega)] at h
  simp at h
  omega
/-- Where the document's reader stands. -/
structure InvF (L : List Int) (base snap : ByteArray) (n j : Nat) (cs : List Chg) (rest : List Int) : Prop where
  len : cs.length = j
  wt : wtL cs + rest.length ≤ L.length
  on : ∀ x, RightS x → stmL x = L → base = x.base ∧ snap = x.snap ∧ n = x.l.length ∧ cs = x.l.take j ∧ rest = (x.l.drop j).flatMap chgL
theorem invF_start {L : List Int} : InvF L (headF L).1 (headF L).2.1 (readShort (headF L).2.2).1.toNat 0 [] ((headF L).2.2.drop (readShort (headF L).2.2).2.1) :=
  ⟨rfl, by rw [wtL_nil, List.length_drop]; have := headF_len L; omega, fun x hx h => by
    subst h
    have hn := hx.len
    rw [headF_ok hx]
    show x.base = x.base ∧ x.snap = x.snap ∧ (readShort (shortL x.l.length ++ x.l.flatMap chgL)).1.toNat = x.l.length ∧ ([] : List Chg) = x.l.take 0 ∧ (shortL x.l.length ++ x.l.flatMap chgL).drop (readShort (shortL x.l.length ++ x.l.flatMap chgL)).2.1 = (x.l.drop 0).flatMap chgL
    rw [readShort_shortL _ (by omega)]
    exact ⟨rfl, rfl, Int.toNat_natCast _, rfl, List.drop_left' rfl⟩⟩
def chgF (l : List Int) : Chg × List Int :=
  let k := rtextF l
  let g := decide (k.2.getD 0 0 = 1)
  if g = true then (⟨k.1, emp, emp, true⟩, k.2.drop 1)
  else
    let i := rtextF (k.2.drop 1)
    let d := rtextF i.2
    (⟨k.1, i.1, d.1, false⟩, d.2)
theorem chgF_wt {l : List Int} (hl : l ≠ []) (hk : (rtextF l).2 ≠ []) : wtC (chgF l).1 + (chgF l).2.length ≤ l.length := by
  have h1 := (rtextF_wt l).2 hl
  have hp := List.length_pos_iff.2 hk
  unfold chgF
  simp only
  split
  · simp only [wtC, List.length_drop]
    have : emp.size = 0 := rfl
    omega
  · have h2 := (rtextF_wt ((rtextF l).2.drop 1)).1
    have h3 := (rtextF_wt (rtextF ((rtextF l).2.drop 1)).2).1
    rw [List.length_drop] at h2
    simp only [wtC]
    omega
theorem chgL_key {base : ByteArray} {prev : Option ByteArray} {c : Chg} (h : OkC base prev c) (r : List Int) : (rtextF (chgL c ++ r)).2 ≠ [] := by
  have hk := h.key
  unfold chgL
  rw [List.append_assoc, rtextF_ok _ (by omega)]
  split <;> simp
theorem chgF_ok {base : ByteArray} {prev : Option ByteArray} {c : Chg} (h : OkC base prev c) (r : List Int) : chgF (chgL c ++ r) = (c, r) := by
  have hk := h.key
  have hi := h.inn
  have hd := h.data
  unfold chgF chgL
  rw [List.append_assoc, rtextF_ok _ (by omega)]
  cases hg : c.gone with
  | true =>
    obtain ⟨_, h2, h3⟩ := h.gone hg
    obtain ⟨k, i, d, g⟩ := c
    simp only at hg h2 h3
    simp [emp_of h2, emp_of h3, hg]
  | false =>
    obtain ⟨k, i, d, g⟩ := c
    simp only at hg hi hd hk
    simp only [Bool.false_eq_true, if_false, List.cons_append, List.getD_cons_zero, List.drop_succ_cons, List.drop_zero]
    rw [if_neg (by decide), List.append_assoc, rtextF_ok _ (by omega), rtextF_ok _ (by omega), hg]
theorem chgL_ne (c : Chg) : chgL c ≠ [] := by
  unfold chgL
  intro h
  exact textL_ne _ (List.append_eq_nil_iff.1 h).1
theorem invF_step {L : List Int} {base snap : ByteArray} {n j : Nat} {cs : List Chg} {rest : List Int} (h : InvF L base snap n j cs rest) (hj : j < n) (hr : rest ≠ []) (hk : (rtextF rest).2 ≠ []) :
    InvF L base snap n (j + 1) (cs ++ [(chgF rest).1]) (chgF rest).2 :=
  ⟨by rw [List.length_append, h.len]; rfl, by
    have := chgF_wt hr hk
    have := h.wt
    rw [wtL_snoc]
    omega, fun x hx hL => by
    obtain ⟨e1, e2, e3, e4, e5⟩ := h.on x hx hL
    obtain ⟨c, hc, hd⟩ := drop_cons_at (show j < x.l.length by omega)
    have ok := chgF_ok (hx.all j c hc) ((x.l.drop (j + 1)).flatMap chgL)
    rw [e5, hd, List.flatMap_cons, ok]
    refine ⟨e1, e2, e3, ?_, rfl⟩
    rw [List.take_add_one, hc, e4]; rfl⟩
theorem invF_key {L : List Int} {base snap : ByteArray} {n j : Nat} {cs : List Chg} {rest : List Int} (h : InvF L base snap n j cs rest) (hj : j < n) (hk : (rtextF rest).2 = []) : NoS L := fun x hx hL => by
  obtain ⟨e1, e2, e3, e4, e5⟩ := h.on x hx hL
  obtain ⟨c, hc, hd⟩ := drop_cons_at (show j < x.l.length by omega)
  rw [e5, hd, List.flatMap_cons] at hk
  exact chgL_key (hx.all j c hc) _ hk
theorem invF_end {L : List Int} {base snap : ByteArray} {n j : Nat} {cs : List Chg} {rest : List Int} (h : InvF L base snap n j cs rest) (he : n ≤ j ∨ rest = []) (x : Stm) (hx : RightS x) (hL : stmL x = L) : x = ⟨base, snap, cs⟩ := by
  obtain ⟨e1, e2, e3, e4, e5⟩ := h.on x hx hL
  have : x.l.take j = x.l := by
    refine List.take_of_length_le ?_
    rcases he with he | he
    · omega
    · rw [he] at e5
      by_cases hj : j < x.l.length
      · obtain ⟨c, hc, hd⟩ := drop_cons_at hj
        rw [hd, List.flatMap_cons] at e5
        exact absurd (List.append_eq_nil_iff.1 e5.symm).1 (chgL_ne c)
      · omega
  rw [this] at e4
  obtain ⟨b, s, l⟩ := x
  simp only at e1 e2 e4
  rw [e1, e2, e4]
theorem noS_magic {L : List Int} (h : L.take 4 ≠ [83, 66, 88, 83]) : NoS L := fun x hx hL => by subst hL; exact h (magic_stmL x)
end Go.Proofs.Ytfefpbnhpncmlaa.StmN
namespace Go.Proofs.Ytfefpbnhpncmlaa.StmO
open Go.RowKit Go.Proofs.Ytfefpbnhpncmlaa.EntL Go.Proofs.Ytfefpbnhpncmlaa.EntB Go.Proofs.Ytfefpbnhpncmlaa.EntC Go.Proofs.Ytfefpbnhpncmlaa.EntD Go.Proofs.Ytfefpbnhpncmlaa.EntE Go.Proofs.Ytfefpbnhpncmlaa.EntF Go.Proofs.Ytfefpbnhpncmlaa.CatR Go.Proofs.Ytfefpbnhpncmlaa.CatT Go.Proofs.Ytfefpbnhpncmlaa.CatU Go.Proofs.Ytfefpbnhpncmlaa.CatK Go.Proofs.Ytfefpbnhpncmlaa.CatS Go.Proofs.Ytfefpbnhpncmlaa.CatY Go.Proofs.Ytfefpbnhpncmlaa.RefG Go.Proofs.Ytfefpbnhpncmlaa.PtrB Go.Proofs.Ytfefpbnhpncmlaa.PtrG Go.Proofs.Ytfefpbnhpncmlaa.Agg Go.Proofs.Ytfefpbnhpncmlaa.B8 Go.Proofs.Ytfefpbnhpncmlaa.CodL Go.Proofs.Ytfefpbnhpncmlaa.CodA Go.Proofs.Ytfefpbnhpncmlaa.CodB Go.Proofs.Ytfefpbnhpncmlaa.CatL Go.Proofs.Ytfefpbnhpncmlaa.PtrA Go.Proofs.Ytfefpbnhpncmlaa.PtrE Go.Proofs.Ytfefpbnhpncmlaa.PtrF Go.Proofs.Ytfefpbnhpncmlaa.PBaseSigns Go.Proofs.YtfefpbnhpncmlaaW.PrintWords Go.Proofs.YtfefpbnhpncmlaaW.PrintLast Go.Proofs.YtfefpbnhpncmlaaW.PrintMore Go.Proofs.Ytfefpbnhpncmlaa.EntG Go.Proofs.Ytfefpbnhpncmlaa.StmA Go.Proofs.Ytfefpbnhpncmlaa.StmB Go.Proofs.Ytfefpbnhpncmlaa.StmC Go.Proofs.Ytfefpbnhpncmlaa.CrcC Go.Proofs.Ytfefpbnhpncmlaa.StmD Go.Proofs.Ytfefpbnhpncmlaa.StmE Go.Proofs.Ytfefpbnhpncmlaa.CrcL Go.Proofs.Ytfefpbnhpncmlaa.StmL Go.Proofs.Ytfefpbnhpncmlaa.StmF Go.Proofs.Ytfefpbnhpncmlaa.StmG Go.Proofs.Ytfefpbnhpncmlaa.StmH Go.Proofs.Ytfefpbnhpncmlaa.StmI Go.Proofs.Ytfefpbnhpncmlaa.StmJ Go.Proofs.Ytfefpbnhpncmlaa.StmK Go.Proofs.Ytfefpbnhpncmlaa.StmM Go.Proofs.Ytfefpbnhpncmlaa.StmN Go.Proofs.Ytfefpbnhpncmlaa.CrcB
set_option linter.unusedVariables false
set_option linter.unusedSimpArgs false

/-- A stream's bytes are told, or none and a fault's number. -/
noncomputable def outS (x : Stm) : List Int := if rightB x then stmL x else []
noncomputable def codeS (x : Stm) : Int := if rightB x then 0 else 2
def TellsPutS (w : World) (k : Int → Value) (x : Stm) (e : Ending) (w' : World) : Prop :=
  ∃ v, e = .returned (.tuple #[v, k (codeS x)]) ∧ R8 w' w.heap.size v (outS x) ∧ Below w.heap.size w w'
/-- Where Put stands. -/
structure PS (w : World) (v : Value) (out : List Int) (cs : Array Value) (t : TypeId) (W : World) : Prop where
  row : R8 W w.heap.size v out
  blk : W.heap[w.heap.size]? = some (.cells cs t (0, 0))
  below : Below w.heap.size w W
theorem PS.call {w W W' : World} {v v1 : Value} {out out1 : List Int} {cs : Array Value} {t : TypeId} (h : PS w v out cs t W) (h1 : R8 W' W.heap.size v1 out1) (h2 : Below W.heap.size W W') : PS w v1 out1 cs t W' :=
  ⟨Kd.R_lower (base' := w.heap.size) h1 h.below.size, blk_below h.blk h2, below_then h.below h.below.size h2⟩
theorem PS.on {w W W' : World} {v : Value} {out : List Int} {cs : Array Value} {t : TypeId} (h : PS w v out cs t W) (h2 : Below W.heap.size W W') : PS w v out cs t W' :=
  ⟨Kd.R_below h.row h2, blk_below h.blk h2, below_then h.below h.below.size h2⟩
section
variable {ops : Array Oper} {o : Oper} {rest : List Oper} {a : Act} {Q : Exit → Act → World → Prop} {K : Act → World → Prop}
/-- A byte is laid behind Put's. -/
theorem PS.app1 {w W : World} {v : Value} {out : List Int} {cs : Array Value} {t : TypeId} (H : PS w v out cs t W) (ht : 5 ≠ t) (hgd : o.guard = none) (s x : Operand)
    (ho : o.op = .call { callee := .builtin .append, args := #[s, x], argTypes := #[31, 31] }) (p : Int) (hs : a.eval s = v) (hx : a.eval x = .slice (some ⟨W.heap.size, 0, none⟩) 1 1) (hl : out.length < 1000000)
    (h : ∀ v1 w1, PS w v1 (out ++ [p]) cs t w1 → W.grownBy w1 v.ownBlock → wpList Try.prog ops Q rest (a.put o.dst v1) w1) :
    wpList Try.prog ops Q (o :: rest) a (W.alloc (.cells #[.int .u8 p] 5)) :=
  Kd.R_append (Kd.int .u8) (w0 := w) w.heap.size hgd s x 31 5 (.int .u8 0) 1 ho Try.underlying31 info5 rfl (by decide) (by omega) v out p [.int .u8 p] (fun _ => True) (fun _ => False) hs hx rfl (fun _ hk => hk.elim) (fun _ _ => trivial) H.row H.below H.below.size (by omega)
    (fun v1 w1 h1 h2 h3 _ => h v1 w1 ⟨h1, blk_grown H.blk h3 (Kd.R_ne H.row H.blk ht), h2⟩ h3)
/-- Bytes are laid behind Put's. -/
theorem PS.appRow {w W : World} {v : Value} {out : List Int} {cs : Array Value} {t : TypeId} (H : PS w v out cs t W) (ht : 5 ≠ t) (hgd : o.guard = none) (s x : Operand)
    (ho : o.op = .call { callee := .builtin .append, args := #[s, x], argTypes := #[31, 31] }) (ys : List Int) (A : Option Addr) (m c : Nat) (hs : a.eval s = v) (hx : a.eval x = .slice A m c) (HR : C8 W A m ys) (hl : out.length < 1000000) (hm : m ≤ 1000000)
    (h : ∀ v1 w1, PS w v1 (out ++ ys) cs t w1 → W.grownBy w1 v.ownBlock → wpList Try.prog ops Q rest (a.put o.dst v1) w1) :
    wpList Try.prog ops Q (o :: rest) a W :=
  Kd.R_append_rows (Kd.int .u8) (w0 := w) w.heap.size hgd s x 31 5 (.int .u8 0) 1 ho Try.underlying31 info5 rfl (by decide) (by omega) v out ys A m c (fun _ => True) (fun _ => False) hs hx H.row HR (fun _ _ h => h) (fun _ h => h.elim) (fun _ _ => trivial) H.below H.below.size (by omega)
    (fun v1 w1 h1 h2 h3 _ => h v1 w1 ⟨h1, blk_grown H.blk h3 (Kd.R_ne H.row H.blk ht), h2⟩ h3)
end
theorem i86 (a b c : Value) : (Try.prog.info? 86).map (·.size) = some (#[a, b, c] : Array Value).size := by
  rw [show (#[a, b, c] : Array Value).size = 3 from rfl]; kernel_rfl
theorem u86 : Try.prog.underlying 86 = some (.struct (Try.prog.fieldsOf 86)) := by kernel_rfl
theorem chgL_gone (k i d : ByteArray) (o : List Int) : o ++ textL k ++ [1] = o ++ chgL ⟨k, i, d, true⟩ := by
  simp [chgL]
theorem chgL_live (k i d : ByteArray) (o : List Int) : o ++ textL k ++ [0] ++ textL i ++ textL d = o ++ chgL ⟨k, i, d, false⟩ := by
  simp [chgL]
set_option maxRecDepth 100000 in
set_option maxHeartbeats 1000000 in
theorem rput_calls (x : Stm) (A : Option Addr) (c n : Nat) (w : World) (h : Kd.C kC w A n x.l) (hm : n ≤ 9000) (hwt : rightB x = true → wtL x.l ≤ 10000) :
    Calls Try.prog 47 #[.agg #[.string x.base, .string x.snap, .slice A n c]] w (TellsPutS w (.int .i64) x) := by
  obtain ⟨base, snap, l⟩ := x
  obtain ⟨X, hX⟩ : ∃ X : Stm, X = ⟨base, snap, l⟩ := ⟨_, rfl⟩
  have H := Aside0.mk h
  have HLEN := Aside0.mk h.1
  have HX := Aside0.mk hX
  have B0 := Aside0.mk (below_alloc (Below.refl w.heap.size w) (.cells #[.string base, .string snap, .slice A n c] 86))
  have G0 := Aside0.mk (blk_new w (.cells #[.string base, .string snap, .slice A n c] 86))
  obtain ⟨P, hP⟩ : ∃ P : Ending → World → Prop, P = TellsPutS w (.int .i64) ⟨base, snap, l⟩ := ⟨_, rfl⟩
  rw [← hP]
  have HP := Aside0.mk hP
  rw [← hX] at hwt
  clear hP h hX
  go_enter Try.func47, Try.ntmps47
  go_wp2_with (refine wpList_load_row rfl 86 (.tmp 1) rfl w.heap.size rfl 86 #[.string base, .string snap, .slice A n c] (0, 0) _ G0.out u86 rfl (i86 _ _ _) ?_)
  generalize hW0 : w.alloc (.cells #[.string base, .string snap, .slice A n c] 86) = W0 at *
  have hs0 : W0.heap.size = w.heap.size + 1 := by rw [← hW0]; simp
  clear hW0
  refine (rrightS_calls ⟨base, snap, l⟩ A c n W0 (Kd.C_below H.out B0.out) hm).mono ?_
  rintro e w1 ⟨rfl, hb1⟩
  have P1 := Aside0.mk (⟨Kd.R_nil _ _ _ _ _, blk_below G0.out hb1, below_then B0.out B0.out.size hb1⟩ : PS w (.slice none 0 0) [] #[.string base, .string snap, .slice A n c] 86 w1)
  clear hb1
  rw [← HX.out]
  cases hr : rightB X with
  | false =>
    have HR := Aside0.mk hr
    clear hr hwt
    go_wp2
    rw [HP.out, ← HX.out]
    refine ⟨_, by rw [codeS, HR.out]; rfl, ?_, P1.out.below⟩
    rw [outS, HR.out]
    exact Kd.R_nil _ _ _ _ _
  | true =>
    have HR := Aside0.mk hr
    have HRS : Aside0 (RightS X) := ⟨by unfold StmI.rightB at hr; simpa using hr⟩
    have HW := Aside0.mk (hwt hr)
    have hsz := rightS_text HRS.out
    rw [HX.out] at hsz
    simp only at hsz
    clear hr hwt
    have cv31 : (convert 31 31 (.slice (some ⟨w1.heap.size, 0, none⟩) 4 4)).run Try.prog (w1.alloc (.cells #[.int .u8 83, .int .u8 66, .int .u8 88, .int .u8 83] 5)) = .ok (.slice (some ⟨w1.heap.size, 0, none⟩) 4 4) (w1.alloc (.cells #[.int .u8 83, .int .u8 66, .int .u8 88, .int .u8 83] 5 (4, 5))) := Lib.run_convert_bytes_const w1 31 5 #[.int .u8 83, .int .u8 66, .int .u8 88, .int .u8 83] 4 4 Try.underlying31 Try.underlying5
    have C1 := Aside0.mk (C8_mark w1 [83, 66, 88, 83] 5 (4, 5) (by simp))
    have P2 := Aside0.mk (P1.out.on (below_alloc (Below.refl w1.heap.size w1) (.cells #[.int .u8 83, .int .u8 66, .int .u8 88, .int .u8 83] 5 (4, 5))))
    have x0 : (w1.alloc (.cells #[.int .u8 83, .int .u8 66, .int .u8 88, .int .u8 83] 5 (4, 5))).cell? ⟨w.heap.size, 0, none⟩ = some (.string base) := by rw [cell_of_row _ _ 0 _ 86 (0, 0) P2.out.blk]; rfl
    go_wp2_with fail
    simp only [List.map_cons, List.map_nil, List.length_cons, List.length_nil] at C1
    generalize (w1.alloc (.cells #[.int .u8 83, .int .u8 66, .int .u8 88, .int .u8 83] 5 (4, 5))) = W2 at *
    refine (rtext_calls _ _ 4 [83, 66, 88, 83] rfl base W2 C1.out (by decide) (by omega)).mono ?_
    rintro e w3 ⟨v3, rfl, hr3, hb3⟩
    have P3 := Aside0.mk (P2.out.call hr3 hb3)
    clear hr3 hb3 x0 C1 P2 cv31
    have x1 : w3.cell? ⟨w.heap.size, 1, none⟩ = some (.string snap) := by rw [cell_of_row _ _ 1 _ 86 (0, 0) P3.out.blk]; rfl
    obtain ⟨A3, c3, rfl, hle3, hC3⟩ := Kd.R_reads P3.out.row
    have HC3 := Aside0.mk hC3
    have hL3 : ([83, 66, 88, 83] ++ textL base).length ≤ 100 := by have := textL_le base (by omega); rw [List.length_append]; simp; omega
    clear hle3 hC3
    generalize hm3 : ([83, 66, 88, 83] ++ textL base) = m3 at *
    go_wp2_with fail
    refine (rtext_calls _ _ _ _ rfl snap w3 HC3.out (by omega) (by omega)).mono ?_
    rintro e w4 ⟨v4, rfl, hr4, hb4⟩
    have P4 := Aside0.mk (P3.out.call hr4 hb4)
    clear hr4 hb4 x1 HC3 P3
    have x2 : w4.cell? ⟨w.heap.size, 2, none⟩ = some (.slice A n c) := by rw [cell_of_row _ _ 2 _ 86 (0, 0) P4.out.blk]; rfl
    obtain ⟨A4, c4, rfl, hle4, hC4⟩ := Kd.R_reads P4.out.row
    have HC4 := Aside0.mk hC4
    have hL4 : (m3 ++ textL snap).length ≤ 200 := by have := textL_le snap (by omega); rw [List.length_append]; omega
    clear hle4 hC4
    generalize hm4 : m3 ++ textL snap = m4 at *
    go_wp2_with fail
    refine (RefB.rshort_calls _ _ m4 n w4 HC4.out (by omega) (by omega)).mono ?_
    rintro e w5 ⟨v5, rfl, hr5, hb5⟩
    have P5 := Aside0.mk (P4.out.call hr5 hb5)
    have HM : Aside0 (m4 ++ shortL n = partS X 0) := ⟨by rw [partS_zero, headS, HX.out, ← hm4, ← hm3, ← HLEN.out]⟩
    rw [HM.out] at P5
    clear hr5 hb5 x2 HC4 P4 hm3 hm4 HM hL3 hL4
    go_wp2
    go_loopw [4, 5] (fun v4 v5 wr => ∃ (j : Nat) (out : List Int), v5 = .int .i64 (j : Int) ∧ j ≤ n ∧ Aside0 (out = partS X j) ∧ Aside0 (PS w v4 out #[.string base, .string snap, .slice A n c] 86 wr)) (fun _ v _ => n - (intOf v).toNat)
    case atStart => exact ⟨0, _, rfl, Nat.zero_le _, ⟨rfl⟩, P5⟩
    case round =>
      obtain ⟨j, out, rfl, hj, ho, PJ⟩ := hrel
      clear P5
      have hlen : out.length ≤ 200000 := by rw [ho.out]; exact partS_le X j (rightS_text HRS.out).1 (rightS_text HRS.out).2 HW.out
      have x2 : wr.cell? ⟨w.heap.size, 2, none⟩ = some (.slice A n c) := by rw [cell_of_row _ _ 2 _ 86 (0, 0) PJ.out.blk]; rfl
      obtain ⟨A5, c5, rfl, hle5, hC5⟩ := Kd.R_reads PJ.out.row
      by_cases hlt : j < n
      · obtain ⟨b, off, rfl, hb, hx⟩ := CF_at H.out (by omega)
        have hxj := hx j hlt
        obtain ⟨y, hy⟩ : ∃ y, y = l.getD j default := ⟨_, rfl⟩
        rw [← hy] at hxj
        have HRG := Aside0.mk (rangeAt_below hxj PJ.out.below hb)
        have HYL := Aside0.mk (show X.l[j]? = some y by
          have hl := HLEN.out
          rw [HX.out]
          show l[j]? = _
          rw [hy, List.getD_eq_getElem?_getD, List.getElem?_eq_getElem (by omega)]; rfl)
        have hwy : wtC y ≤ 10000 := Nat.le_trans (wtL_at X.l j y HYL.out) HW.out
        obtain ⟨key, inn, data, gone⟩ := y
        simp only [wtC] at hwy
        have HN := Aside0.mk (show partS X (j + 1) = out ++ chgL ⟨key, inn, data, gone⟩ by rw [partS_succ X j _ HYL.out, ho.out])
        have hkl := textL_le key (by omega)
        have hil := textL_le inn (by omega)
        have HC5 := Aside0.mk hC5
        clear hxj hy hx hle5 hC5
        go_wp2_with (refine load_C rfl (.tmp 35) rfl b (off + j * 4) ⟨key, inn, data, gone⟩ rfl HRG.out ?_)
        have hbW := below_alloc (Below.refl wr.heap.size wr) (.cells (encC ⟨key, inn, data, gone⟩) 140)
        have PW := Aside0.mk (PJ.out.on hbW)
        have GY := Aside0.mk (blk_new wr (.cells (encC ⟨key, inn, data, gone⟩) 140))
        have HC6 := Aside0.mk (Kd.C_below HC5.out hbW)
        clear hbW x2 HC5 HRG
        generalize hWb : (wr.alloc (.cells (encC ⟨key, inn, data, gone⟩) 140)) = Wb at *
        clear hWb
        refine (rtext_calls _ _ _ _ rfl key Wb HC6.out (by omega) (by omega)).mono ?_
        rintro e w6 ⟨v6, rfl, hr6, hb6⟩
        have P6 := Aside0.mk (PW.out.call hr6 hb6)
        have G6 := Aside0.mk (blk_below GY.out hb6)
        clear hr6 hb6 PW GY HC6
        have x3 : w6.cell? ⟨wr.heap.size, 3, none⟩ = some (.bool gone) := by rw [cell_of_row _ _ 3 _ 140 (0, 0) G6.out]; rfl
        have hL6 : (out ++ textL key).length ≤ 300000 := by rw [List.length_append]; omega
        have hsz6 := Aside0.mk P6.out.below.size
        generalize hm6 : out ++ textL key = m6 at *
        cases gone with
        | true =>
          have HM7 := Aside0.mk (show m6 ++ [1] = partS X (j + 1) by rw [HN.out, ← hm6]; exact chgL_gone key inn data out)
          clear HN
          go_wp2_with (at_builtin; refine P6.out.app1 (by decide) rfl (.tmp 44) (.tmp 45) rfl 1 rfl rfl (by omega) ?_; intro v7 w7 ho7 hg7; have H7 := Aside0.mk ho7; clear ho7 hg7)
          go_roundw
          case rel =>
            refine ⟨j + 1, _, by go_num, by omega, HM7, H7⟩
          case measure => simp [intOf]; omega
        | false =>
          have HM7 := Aside0.mk (show m6 ++ [0] ++ textL inn ++ textL data = partS X (j + 1) by rw [HN.out, ← hm6]; exact chgL_live key inn data out)
          clear HN
          go_wp2_with (at_builtin; refine P6.out.app1 (by decide) rfl (.tmp 47) (.tmp 48) rfl 0 rfl rfl (by omega) ?_; have hL7 : (m6 ++ [0]).length ≤ 300001 := (by rw [List.length_append]; simp; omega); generalize hm7 : m6 ++ [0] = m7 at *; intro v7 w7 ho7 hg7; have H7 := Aside0.mk ho7; have G7 := Aside0.mk (blk_grown G6.out hg7 (Kd.R_ne P6.out.row G6.out (by decide))); have x4 : w7.cell? ⟨wr.heap.size, 1, none⟩ = some (.string inn) := (by rw [cell_of_row _ _ 1 _ 140 (0, 0) G7.out]; rfl); obtain ⟨A7, c7, rfl, hle7, hC7⟩ := Kd.R_reads ho7.row; have HC7 := Aside0.mk hC7; clear ho7 hg7 hle7 hC7)
          refine (rtext_calls _ _ _ _ rfl inn w7 HC7.out (by omega) (by omega)).mono ?_
          rintro e w8 ⟨v8, rfl, hr8, hb8⟩
          have P8 := Aside0.mk (H7.out.call hr8 hb8)
          have G8 := Aside0.mk (blk_below G7.out hb8)
          clear hr8 hb8 H7 G7 HC7 G6 P6 x3 x4
          have x5 : w8.cell? ⟨wr.heap.size, 2, none⟩ = some (.string data) := by rw [cell_of_row _ _ 2 _ 140 (0, 0) G8.out]; rfl
          obtain ⟨A8, c8, rfl, hle8, hC8⟩ := Kd.R_reads P8.out.row
          have HC8 := Aside0.mk hC8
          have hL8 : (m7 ++ textL inn).length ≤ 400000 := by rw [List.length_append]; omega
          clear hle8 hC8
          generalize hm8 : m7 ++ textL inn = m8 at *
          go_wp2_with fail
          refine (rtext_calls _ _ _ _ rfl data w8 HC8.out (by omega) (by omega)).mono ?_
          rintro e w9 ⟨v9, rfl, hr9, hb9⟩
          have P9 := Aside0.mk (P8.out.call hr9 hb9)
          clear hr9 hb9 P8 G8 HC8 x5
          go_wp2
          go_roundw
          case rel =>
            refine ⟨j + 1, _, by go_num, by omega, HM7, P9⟩
          case measure => simp [intOf]; omega
      · obtain rfl : j = n := by omega
        have HC5 := Aside0.mk hC5
        have HB := Aside0.mk (show Byt out by rw [ho.out]; exact partS_byt _ _)
        have HO := Aside0.mk (show out = bodyL X by
          have hl : X.l.length = j := by rw [HX.out]; exact HLEN.out
          rw [ho.out, ← partS_all X, hl])
        clear hC5 hle5
        go_wp2_with fail
        refine (rgo_calls _ _ _ out rfl wr HC5.out HB.out).mono ?_
        rintro e w6 ⟨rfl, rfl⟩
        have hsl := sumN_lt out
        go_wp2_with fail
        refine (RefA.rfixed_calls _ _ out 4 (sumN out : Int) w6 HC5.out (by omega) (by decide) (by decide) (by omega) (by omega)).mono ?_
        rintro e w7 ⟨v7, rfl, hr7, hb7⟩
        have P7 := Aside0.mk (PJ.out.call hr7 hb7)
        clear hr7 hb7
        go_wp2
        rw [HP.out, ← HX.out]
        refine ⟨_, by rw [codeS, HR.out]; rfl, ?_, P7.out.below⟩
        rw [outS, HR.out, if_pos rfl, stmL, ← HO.out]
        exact P7.out.row
end Go.Proofs.Ytfefpbnhpncmlaa.StmO
namespace Go.Proofs.Ytfefpbnhpncmlaa.StmP
open Go.RowKit Go.Proofs.Ytfefpbnhpncmlaa.EntL Go.Proofs.Ytfefpbnhpncmlaa.EntB Go.Proofs.Ytfefpbnhpncmlaa.EntC Go.Proofs.Ytfefpbnhpncmlaa.EntD Go.Proofs.Ytfefpbnhpncmlaa.EntE Go.Proofs.Ytfefpbnhpncmlaa.EntF Go.Proofs.Ytfefpbnhpncmlaa.CatR Go.Proofs.Ytfefpbnhpncmlaa.CatT Go.Proofs.Ytfefpbnhpncmlaa.CatU Go.Proofs.Ytfefpbnhpncmlaa.CatK Go.Proofs.Ytfefpbnhpncmlaa.CatS Go.Proofs.Ytfefpbnhpncmlaa.CatY Go.Proofs.Ytfefpbnhpncmlaa.RefG Go.Proofs.Ytfefpbnhpncmlaa.PtrB Go.Proofs.Ytfefpbnhpncmlaa.PtrG Go.Proofs.Ytfefpbnhpncmlaa.Agg Go.Proofs.Ytfefpbnhpncmlaa.B8 Go.Proofs.Ytfefpbnhpncmlaa.CodL Go.Proofs.Ytfefpbnhpncmlaa.CodA Go.Proofs.Ytfefpbnhpncmlaa.CodB Go.Proofs.Ytfefpbnhpncmlaa.CatL Go.Proofs.Ytfefpbnhpncmlaa.PtrA Go.Proofs.Ytfefpbnhpncmlaa.PtrE Go.Proofs.Ytfefpbnhpncmlaa.PtrF Go.Proofs.Ytfefpbnhpncmlaa.PBaseSigns Go.Proofs.YtfefpbnhpncmlaaW.PrintWords Go.Proofs.YtfefpbnhpncmlaaW.PrintLast Go.Proofs.YtfefpbnhpncmlaaW.PrintMore Go.Proofs.Ytfefpbnhpncmlaa.EntG Go.Proofs.Ytfefpbnhpncmlaa.StmA Go.Proofs.Ytfefpbnhpncmlaa.StmB Go.Proofs.Ytfefpbnhpncmlaa.StmC Go.Proofs.Ytfefpbnhpncmlaa.CrcC Go.Proofs.Ytfefpbnhpncmlaa.StmD Go.Proofs.Ytfefpbnhpncmlaa.StmE Go.Proofs.Ytfefpbnhpncmlaa.CrcL Go.Proofs.Ytfefpbnhpncmlaa.StmL Go.Proofs.Ytfefpbnhpncmlaa.StmF Go.Proofs.Ytfefpbnhpncmlaa.StmG Go.Proofs.Ytfefpbnhpncmlaa.StmH Go.Proofs.Ytfefpbnhpncmlaa.StmI Go.Proofs.Ytfefpbnhpncmlaa.StmJ Go.Proofs.Ytfefpbnhpncmlaa.StmK Go.Proofs.Ytfefpbnhpncmlaa.StmM Go.Proofs.Ytfefpbnhpncmlaa.StmN Go.Proofs.Ytfefpbnhpncmlaa.StmO
set_option linter.unusedVariables false
set_option linter.unusedSimpArgs false

section
variable {ops : Array Oper} {o : Oper} {rest : List Oper} {a : Act} {Q : Exit → Act → World → Prop} {K : Act → World → Prop}
theorem wp_app1 {w W : World} {v : Value} {out : List Int} {cs : Array Value} {t : TypeId} (H : PS w v out cs t W) (ht : 5 ≠ t) (s x : Operand)
    (ho : o.op = .call { callee := .builtin .append, args := #[s, x], argTypes := #[31, 31] }) (p : Int) (hs : a.eval s = v) (hx : a.eval x = .slice (some ⟨W.heap.size, 0, none⟩) 1 1) (hl : out.length < 1000000)
    (h : ∀ v1 w1, PS w v1 (out ++ [p]) cs t w1 → W.grownBy w1 v.ownBlock → K (a.put o.dst v1) w1) :
    o.wp Try.prog a (W.alloc (.cells #[.int .u8 p] 5)) K Q := by
  have hop : ({ o with guard := none } : Oper).op = .call { callee := .builtin .append, args := #[s, x], argTypes := #[31, 31] } := ho
  have := Kd.R_append_step (P := Try.prog) (ops := #[]) (o := { o with guard := none }) (a := a) (Q := Q) (Kc := K) (Kd.int .u8) (w0 := w) w.heap.size rfl s x 31 5 (.int .u8 0) 1 hop Try.underlying31 info5 rfl (by decide) (by decide) v out p [.int .u8 p] (fun _ => True) (fun _ => False) hs hx rfl (fun _ h => h.elim) (fun _ _ => trivial) H.row H.below H.below.size (by omega)
    (fun v1 w1 h1 h2 h3 _ => h v1 w1 ⟨h1, blk_grown H.blk h3 (Kd.R_ne H.row H.blk ht), h2⟩ h3)
  have hw : Region.wanted { o with guard := none } (yielded #[] a.tmps) = true := rfl
  rw [if_pos hw] at this
  exact this
theorem wp_appRow {w W : World} {v : Value} {out : List Int} {cs : Array Value} {t : TypeId} (H : PS w v out cs t W) (ht : 5 ≠ t) (s x : Operand)
    (ho : o.op = .call { callee := .builtin .append, args := #[s, x], argTypes := #[31, 31] }) (ys : List Int) (A : Option Addr) (m c : Nat) (hs : a.eval s = v) (hx : a.eval x = .slice A m c) (HR : C8 W A m ys) (hl : out.length < 1000000) (hm : m ≤ 1000000)
    (h : ∀ v1 w1, PS w v1 (out ++ ys) cs t w1 → W.grownBy w1 v.ownBlock → K (a.put o.dst v1) w1) :
    o.wp Try.prog a W K Q := by
  have hop : ({ o with guard := none } : Oper).op = .call { callee := .builtin .append, args := #[s, x], argTypes := #[31, 31] } := ho
  have := Kd.R_append_rows_step (P := Try.prog) (ops := #[]) (o := { o with guard := none }) (a := a) (Q := Q) (Kc := K) (Kd.int .u8) (w0 := w) w.heap.size rfl s x 31 5 (.int .u8 0) 1 hop Try.underlying31 info5 rfl (by decide) (by decide) v out ys A m c (fun _ => True) (fun _ => False) hs hx H.row HR (fun _ _ h => h) (fun _ h => h.elim) (fun _ _ => trivial) H.below H.below.size (by omega)
    (fun v1 w1 h1 h2 h3 _ => h v1 w1 ⟨h1, blk_grown H.blk h3 (Kd.R_ne H.row H.blk ht), h2⟩ h3)
  have hw : Region.wanted { o with guard := none } (yielded #[] a.tmps) = true := rfl
  rw [if_pos hw] at this
  exact this
theorem wp_zero {w : World} (ho : o.op = .buildSlice 31 1 #[(0, .const (.int .u8 0))])
    (h : K (a.put o.dst (.slice (some ⟨w.heap.size, 0, none⟩) 1 1)) (w.alloc (.cells #[.int .u8 0] 5))) : o.wp Try.prog a w K Q := by
  unfold Oper.wp execOp
  have hm : (#[(0, Operand.const (.int .u8 0))] : Array (Nat × Operand)).map (fun (i, x) => (i, a.eval x)) = #[(0, .int .u8 0)] := by simp [Act.eval]
  have hr : (Instr.buildSlice 31 1 #[(0, .int .u8 0)]).run Try.prog w = .ok (.slice (some ⟨w.heap.size, 0, none⟩) 1 1) (w.alloc (.cells #[.int .u8 0] 5)) := by kernel_rfl
  simp only [ho]
  rw [hm]
  simp only [Sem.run_bind, Sem.run_pure, Result.andThen_ok, hr]
  exact h
theorem wp_magic {w : World} (ho : o.op = .buildSlice 31 4 #[(0, .const (.int .u8 83)), (1, .const (.int .u8 66)), (2, .const (.int .u8 88)), (3, .const (.int .u8 83))])
    (h : K (a.put o.dst (.slice (some ⟨w.heap.size, 0, none⟩) 4 4)) (w.alloc (.cells #[.int .u8 83, .int .u8 66, .int .u8 88, .int .u8 83] 5))) : o.wp Try.prog a w K Q := by
  unfold Oper.wp execOp
  have hm : (#[(0, .const (.int .u8 83)), (1, .const (.int .u8 66)), (2, .const (.int .u8 88)), (3, .const (.int .u8 83))] : Array (Nat × Operand)).map (fun (i, x) => (i, a.eval x)) = #[(0, .int .u8 83), (1, .int .u8 66), (2, .int .u8 88), (3, .int .u8 83)] := by simp [Act.eval]
  have hr : (Instr.buildSlice 31 4 #[(0, .int .u8 83), (1, .int .u8 66), (2, .int .u8 88), (3, .int .u8 83)]).run Try.prog w = .ok (.slice (some ⟨w.heap.size, 0, none⟩) 4 4) (w.alloc (.cells #[.int .u8 83, .int .u8 66, .int .u8 88, .int .u8 83] 5)) := by kernel_rfl
  simp only [ho]
  rw [hm]
  simp only [Sem.run_bind, Sem.run_pure, Result.andThen_ok, hr]
  exact h
end
theorem i79 (a b c : Value) : (Try.prog.info? 79).map (·.size) = some (#[a, b, c] : Array Value).size := by
  rw [show (#[a, b, c] : Array Value).size = 3 from rfl]; kernel_rfl
theorem u79 : Try.prog.underlying 79 = some (.struct (Try.prog.fieldsOf 79)) := by kernel_rfl
set_option maxRecDepth 100000 in
set_option maxHeartbeats 1000000 in
theorem put_calls (x : Stm) (A : Option Addr) (c n : Nat) (xs : List Sl) (w : World) (h : CR w A n xs x.l) (hm : n ≤ 9000) (hwt : rightB x = true → wtL x.l ≤ 10000) :
    Calls Try.prog 46 #[.agg #[.string x.base, .string x.snap, .slice A n c]] w (TellsPutS w (.int .i64) x) := by
  obtain ⟨base, snap, l⟩ := x
  obtain ⟨X, hX⟩ : ∃ X : Stm, X = ⟨base, snap, l⟩ := ⟨_, rfl⟩
  have H := Aside0.mk h
  have HLEN := Aside0.mk h.len
  have HX := Aside0.mk hX
  have B0 := Aside0.mk (below_alloc (Below.refl w.heap.size w) (.cells #[.string base, .string snap, .slice A n c] 79))
  have G0 := Aside0.mk (blk_new w (.cells #[.string base, .string snap, .slice A n c] 79))
  obtain ⟨P, hP⟩ : ∃ P : Ending → World → Prop, P = TellsPutS w (.int .i64) ⟨base, snap, l⟩ := ⟨_, rfl⟩
  rw [← hP]
  have HP := Aside0.mk hP
  rw [← hX] at hwt
  clear hP h hX
  go_enter Try.func46, Try.ntmps46
  go_wp2_with (refine wpList_load_row rfl 79 (.tmp 1) rfl w.heap.size rfl 79 #[.string base, .string snap, .slice A n c] (0, 0) _ G0.out u79 rfl (i79 _ _ _) ?_)
  generalize hW0 : w.alloc (.cells #[.string base, .string snap, .slice A n c] 79) = W0 at *
  have hs0 : W0.heap.size = w.heap.size + 1 := by rw [← hW0]; simp
  clear hW0
  refine (right_calls ⟨base, snap, l⟩ A c n xs W0 (H.out.below B0.out) hm).mono ?_
  rintro e w1 ⟨rfl, hb1⟩
  have P1 := Aside0.mk (⟨Kd.R_nil _ _ _ _ _, blk_below G0.out hb1, below_then B0.out B0.out.size hb1⟩ : PS w (.slice none 0 0) [] #[.string base, .string snap, .slice A n c] 79 w1)
  clear hb1
  rw [← HX.out]
  cases hr : rightB X with
  | false =>
    have HR := Aside0.mk hr
    clear hr hwt
    go_wp2
    rw [HP.out, ← HX.out]
    refine ⟨_, by rw [codeS, HR.out]; rfl, ?_, P1.out.below⟩
    rw [outS, HR.out]
    exact Kd.R_nil _ _ _ _ _
  | true =>
    have HR := Aside0.mk hr
    have HRS : Aside0 (RightS X) := ⟨by unfold StmI.rightB at hr; simpa using hr⟩
    have HW := Aside0.mk (hwt hr)
    have hsz := rightS_text HRS.out
    rw [HX.out] at hsz
    simp only at hsz
    clear hr hwt
    go_wp2
    have P1' := Aside0.mk (P1.out.on (below_drew (Below.refl w1.heap.size w1)))
    clear P1
    refine wp_region_held_drew (S := fun w' => Below w.heap.size w w' ∧ w'.heap[w.heap.size]? = some (.cells #[.string base, .string snap, .slice A n c] 79 (0, 0))) (by kernel_rfl) ⟨P1'.out.below, P1'.out.blk⟩ (fun hW => ?_)
    generalize w1.drew = w1d at *
    refine wpAnyH_take (i := 2) (oi := ⟨some 12, _, _, _, _, _⟩) (v := .pointer (some ⟨w.heap.size, 0, none⟩)) rfl (by kernel_rfl) (by kernel_rfl) (by kernel_rfl) (fun _ _ _ h => h) (.inl ⟨by rfl, fun W1 h1 => by go_simp⟩) hW ?_
    try simp only [Act.put, List.setIfInBounds_toArray, List.set_cons_zero, List.set_cons_succ]
    refine wpAnyH_take (i := 3) (oi := ⟨some 13, _, _, _, _, _⟩) (v := .string base) rfl (by kernel_rfl) (by kernel_rfl) (by kernel_rfl) (fun _ _ _ h => h) (.inl ⟨by rfl, fun W1 h1 => by (have x1 : W1.cell? ⟨w.heap.size, 0, none⟩ = some (.string base) := (by rw [cell_of_row _ _ 0 _ 79 (0, 0) h1.2]; rfl)); go_simp⟩) hW ?_
    try simp only [Act.put, List.setIfInBounds_toArray, List.set_cons_zero, List.set_cons_succ]
    refine wpAnyH_take (i := 5) (oi := ⟨some 15, _, _, _, _, _⟩) (v := .pointer (some ⟨w.heap.size, 1, none⟩)) rfl (by kernel_rfl) (by kernel_rfl) (by kernel_rfl) (fun _ _ _ h => h) (.inl ⟨by rfl, fun W1 h1 => by go_simp⟩) hW ?_
    try simp only [Act.put, List.setIfInBounds_toArray, List.set_cons_zero, List.set_cons_succ]
    refine wpAnyH_take (i := 6) (oi := ⟨some 16, _, _, _, _, _⟩) (v := .string snap) rfl (by kernel_rfl) (by kernel_rfl) (by kernel_rfl) (fun _ _ _ h => h) (.inl ⟨by rfl, fun W1 h1 => by (have x1 : W1.cell? ⟨w.heap.size, 1, none⟩ = some (.string snap) := (by rw [cell_of_row _ _ 1 _ 79 (0, 0) h1.2]; rfl)); go_simp⟩) hW ?_
    try simp only [Act.put, List.setIfInBounds_toArray, List.set_cons_zero, List.set_cons_succ]
    refine wpAnyH_ready (rs := [0]) (by kernel_rfl) (by simp) (AllReadyH.cons rfl (fun K1 hK1 => ?_) AllReadyH.nil)
    refine wp_magic (o := ⟨some 10, _, _, _, _, _⟩) rfl ?_
    have hb1 := below_alloc (Below.refl w1d.heap.size w1d) (.cells #[.int .u8 83, .int .u8 66, .int .u8 88, .int .u8 83] 5)
    refine hK1.out _ _ ⟨below_then P1'.out.below P1'.out.below.size hb1, blk_below P1'.out.blk hb1⟩ (fun hW => ?_)
    try simp only [Act.put, List.setIfInBounds_toArray, List.set_cons_zero, List.set_cons_succ]
    have cv31 : (convert 31 31 (.slice (some ⟨w1d.heap.size, 0, none⟩) 4 4)).run Try.prog (w1d.alloc (.cells #[.int .u8 83, .int .u8 66, .int .u8 88, .int .u8 83] 5)) = .ok (.slice (some ⟨w1d.heap.size, 0, none⟩) 4 4) (w1d.alloc (.cells #[.int .u8 83, .int .u8 66, .int .u8 88, .int .u8 83] 5 (4, 5))) := Lib.run_convert_bytes_const w1d 31 5 #[.int .u8 83, .int .u8 66, .int .u8 88, .int .u8 83] 4 4 Try.underlying31 Try.underlying5
    refine wpAnyH_ready (rs := [1]) (by kernel_rfl) (by simp) (AllReadyH.cons rfl (fun K2 hK2 => ?_) AllReadyH.nil)
    go_simp
    have C1 := Aside0.mk (C8_mark w1d [83, 66, 88, 83] 5 (4, 5) (by simp))
    have P2 := Aside0.mk (P1'.out.on (below_alloc (Below.refl w1d.heap.size w1d) (.cells #[.int .u8 83, .int .u8 66, .int .u8 88, .int .u8 83] 5 (4, 5))))
    refine hK2.out _ _ ⟨P2.out.below, P2.out.blk⟩ (fun hW => ?_)
    try simp only [Act.put, List.setIfInBounds_toArray, List.set_cons_zero, List.set_cons_succ]
    clear cv31 hb1
    simp only [List.map_cons, List.map_nil, List.length_cons, List.length_nil] at C1
    generalize (w1d.alloc (.cells #[.int .u8 83, .int .u8 66, .int .u8 88, .int .u8 83] 5 (4, 5))) = W2 at *
    refine wpAnyH_ready (rs := [4]) (by kernel_rfl) (by simp) (AllReadyH.cons rfl (fun K3 hK3 => ?_) AllReadyH.nil)
    go_simp
    refine (text_calls _ _ 4 [83, 66, 88, 83] rfl base W2 C1.out (by decide) (by omega)).mono ?_
    rintro e w3 ⟨v3, rfl, hr3, hb3⟩
    have P3 := Aside0.mk (P2.out.call hr3 hb3)
    clear hr3 hb3 C1 P2
    refine hK3.out _ _ ⟨P3.out.below, P3.out.blk⟩ (fun hW => ?_)
    try simp only [Act.put, List.setIfInBounds_toArray, List.set_cons_zero, List.set_cons_succ]
    obtain ⟨A3, c3, rfl, hle3, hC3⟩ := Kd.R_reads P3.out.row
    have HC3 := Aside0.mk hC3
    have hL3 : ([83, 66, 88, 83] ++ textL base).length ≤ 100 := by have := textL_le base (by omega); rw [List.length_append]; simp; omega
    clear hle3 hC3
    generalize hm3 : ([83, 66, 88, 83] ++ textL base) = m3 at *
    refine wpAnyH_ready (rs := [7]) (by kernel_rfl) (by simp) (AllReadyH.cons rfl (fun K4 hK4 => ?_) AllReadyH.nil)
    go_simp
    refine (text_calls _ _ _ _ rfl snap w3 HC3.out (by omega) (by omega)).mono ?_
    rintro e w4 ⟨v4, rfl, hr4, hb4⟩
    have P4 := Aside0.mk (P3.out.call hr4 hb4)
    refine hK4.out _ _ ⟨P4.out.below, P4.out.blk⟩ (fun hW => ?_)
    try simp only [Act.put, List.setIfInBounds_toArray, List.set_cons_zero, List.set_cons_succ]
    refine wpAnyH_take (i := 8) (oi := ⟨some 4, _, _, _, _, _⟩) (v := v4) rfl (by kernel_rfl) (by kernel_rfl) (by kernel_rfl) (fun _ _ _ h => h) (.inl ⟨by rfl, fun W1 h1 => by go_simp⟩) hW ?_
    try simp only [Act.put, List.setIfInBounds_toArray, List.set_cons_zero, List.set_cons_succ]
    refine wpAnyH_done (by kernel_rfl) ?_ _
    clear hr4 hb4 HC3 P3 hW hK1 hK2 hK3 hK4 K1 K2 K3 K4
    have x2 : w4.cell? ⟨w.heap.size, 2, none⟩ = some (.slice A n c) := by rw [cell_of_row _ _ 2 _ 79 (0, 0) P4.out.blk]; rfl
    obtain ⟨A4, c4, rfl, hle4, hC4⟩ := Kd.R_reads P4.out.row
    have HC4 := Aside0.mk hC4
    have hL4 : (m3 ++ textL snap).length ≤ 200 := by have := textL_le snap (by omega); rw [List.length_append]; omega
    clear hle4 hC4
    generalize hm4 : m3 ++ textL snap = m4 at *
    go_wp2_with fail
    refine (CodA.short_calls _ _ m4 n w4 HC4.out (by omega) (by omega)).mono ?_
    rintro e w5 ⟨v5, rfl, hr5, hb5⟩
    have P5 := Aside0.mk (P4.out.call hr5 hb5)
    have HM : Aside0 (m4 ++ shortL n = partS X 0) := ⟨by rw [partS_zero, headS, HX.out, ← hm4, ← hm3, ← HLEN.out]⟩
    rw [HM.out] at P5
    clear hr5 hb5 x2 HC4 P4 hm3 hm4 HM hL3 hL4
    have x2 : w5.cell? ⟨w.heap.size, 2, none⟩ = some (.slice A n c) := by rw [cell_of_row _ _ 2 _ 79 (0, 0) P5.out.blk]; rfl
    go_wp2
    go_loopw [4, 27] (fun v4 v5 wr => ∃ (j : Nat) (out : List Int), v5 = .int .i64 (j : Int) ∧ j ≤ n ∧ Aside0 (out = partS X j) ∧ Aside0 (PS w v4 out #[.string base, .string snap, .slice A n c] 79 wr)) (fun _ v _ => n - (intOf v).toNat)
    case atStart => exact ⟨0, _, rfl, Nat.zero_le _, ⟨rfl⟩, P5⟩
    case round =>
      obtain ⟨j, out, rfl, hj, ho, PJ⟩ := hrel
      clear P5 x2
      have hlen : out.length ≤ 200000 := by rw [ho.out]; exact partS_le X j (rightS_text HRS.out).1 (rightS_text HRS.out).2 HW.out
      by_cases hlt : j < n
      · obtain ⟨b, off, rfl, hb, hx⟩ := CF_at H.out.row (by omega)
        have hxj := hx j hlt
        have hca := H.out.each j hlt
        obtain ⟨y, hy⟩ : ∃ y, y = l.getD j default := ⟨_, rfl⟩
        obtain ⟨p, hp⟩ : ∃ p, p = xs.getD j default := ⟨_, rfl⟩
        rw [← hp] at hxj hca
        rw [← hy] at hca
        have HRG := Aside0.mk (rangeAt_below hxj PJ.out.below hb)
        have HYL := Aside0.mk (show X.l[j]? = some y by
          have hl := HLEN.out
          rw [HX.out]
          show l[j]? = _
          rw [hy, List.getD_eq_getElem?_getD, List.getElem?_eq_getElem (by omega)]; rfl)
        have hwy : wtC y ≤ 10000 := Nat.le_trans (wtL_at X.l j y HYL.out) HW.out
        obtain ⟨key, inn, data, g'⟩ := y
        obtain ⟨A1, n1, c1, A2, n2, c2, A3, n3, c3, g⟩ := p
        obtain rfl : g = g' := hca.2
        have HCA := Aside0.mk hca.1
        simp only [wtC] at hwy
        have HN := Aside0.mk (show partS X (j + 1) = out ++ chgL ⟨key, inn, data, g⟩ by rw [partS_succ X j _ HYL.out, ho.out])
        have hkl := textL_le key (by omega)
        have hil := textL_le inn (by omega)
        clear hxj hy hp hca hx
        have hbW := below_alloc (Below.refl wr.heap.size wr) (.cells (encS ⟨A1, n1, c1, A2, n2, c2, A3, n3, c3, g⟩) 133)
        have PW := Aside0.mk (PJ.out.on hbW)
        have GY := Aside0.mk (blk_new wr (.cells (encS ⟨A1, n1, c1, A2, n2, c2, A3, n3, c3, g⟩) 133))
        have x3 := Kd.C_string (c := c1) (P := Try.prog) Try.underlying31 Try.underlying5 Try.underlying9 (Kd.C_below HCA.out.k PW.out.below)
        rw [str_bytes] at x3
        clear hbW
        go_wp2_with (refine load_S rfl (.tmp 29) rfl b (off + j * 4) ⟨A1, n1, c1, A2, n2, c2, A3, n3, c3, g⟩ rfl HRG.out ?_)
        generalize hWb : (wr.alloc (.cells (encS ⟨A1, n1, c1, A2, n2, c2, A3, n3, c3, g⟩) 133)) = Wb at *
        clear hWb HRG x3
        refine (text_calls none 0 0 [] rfl key Wb (Kd.C_nil _ _) (by omega) (by omega)).mono ?_
        rintro e w6 ⟨v36, rfl, hr6, hb6⟩
        have P6a := Aside0.mk (PW.out.on hb6)
        have G6a := Aside0.mk (blk_below GY.out hb6)
        obtain ⟨A36, c36, rfl, hle36, hC36⟩ := Kd.R_reads hr6
        have HC36 := Aside0.mk hC36
        have hL36 : ([] ++ textL key).length ≤ 20000 := by rw [List.nil_append]; omega
        have hL6 : (out ++ ([] ++ textL key)).length ≤ 300000 := by rw [List.length_append]; omega
        have HM6 := Aside0.mk (show out ++ ([] ++ textL key) = out ++ textL key by rw [List.nil_append])
        clear hr6 hb6 PW GY hle36 hC36
        cases g with
        | true =>
          go_wp2_with (at_builtin; first | (refine P6a.out.appRow (by decide) rfl (.tmp 31) (.tmp 36) rfl _ _ _ _ rfl rfl HC36.out (by omega) (by omega) ?_; generalize hm6 : out ++ ([] ++ textL key) = m6 at *; intro v6 w6b ho6 hg6; have P6 := Aside0.mk ho6; have G6 := Aside0.mk (blk_grown G6a.out hg6 (Kd.R_ne P6a.out.row G6a.out (by decide))); have x4 : w6b.cell? ⟨wr.heap.size, 3, none⟩ = some (.bool true) := (by rw [cell_of_row _ _ 3 _ 133 (0, 0) G6.out]; rfl); have hsz6 := Aside0.mk ho6.below.size; have HM7 := Aside0.mk (show m6 ++ [1] = partS X (j + 1) by rw [HN.out, HM6.out]; exact chgL_gone key inn data out); clear ho6 hg6) | (refine P6.out.app1 (by decide) rfl (.tmp 40) (.tmp 41) rfl 1 rfl rfl (by omega) ?_; intro v7 w7 ho7 hg7; have H7 := Aside0.mk ho7; clear ho7 hg7))
          go_roundw
          case rel =>
            refine ⟨j + 1, _, by go_num, by omega, HM7, H7⟩
          case measure => simp [intOf]; omega
        | false =>
          go_wp2_with (at_builtin; refine P6a.out.appRow (by decide) rfl (.tmp 31) (.tmp 36) rfl _ _ _ _ rfl rfl HC36.out (by omega) (by omega) ?_; generalize hm6 : out ++ ([] ++ textL key) = m6 at *; intro v6 w6b ho6 hg6; have P6 := Aside0.mk ho6; have G6 := Aside0.mk (blk_grown G6a.out hg6 (Kd.R_ne P6a.out.row G6a.out (by decide))); have x4 : w6b.cell? ⟨wr.heap.size, 3, none⟩ = some (.bool false) := (by rw [cell_of_row _ _ 3 _ 133 (0, 0) G6.out]; rfl); have hsz6 := Aside0.mk ho6.below.size; have HM7 := Aside0.mk (show m6 ++ [0] ++ textL inn ++ textL data = partS X (j + 1) by rw [HN.out, HM6.out]; exact chgL_live key inn data out); clear ho6 hg6)
          clear HN HM6 x4 HC36 P6a G6a PJ
          have P6' := Aside0.mk (P6.out.on (below_drew (Below.refl w6b.heap.size w6b)))
          have G6' := Aside0.mk (blk_below G6.out (below_drew (Below.refl w6b.heap.size w6b)))
          clear P6 G6
          have P6 := P6'
          have G6 := G6'
          clear P6' G6'
          refine wp_region_held_drew (S := fun w' => Below w.heap.size w w' ∧ w'.heap[wr.heap.size]? = some (.cells (encS ⟨A1, n1, c1, A2, n2, c2, A3, n3, c3, false⟩) 133 (0, 0))) (by kernel_rfl) ⟨P6.out.below, G6.out⟩ (fun hW => ?_)
          generalize w6b.drew = W at *
          refine wpAnyH_take (i := 0) (oi := ⟨some 43, _, _, _, _, _⟩) (v := v6) rfl (by kernel_rfl) (by kernel_rfl) (by kernel_rfl) (fun _ _ _ h => h) (.inl ⟨by rfl, fun W1 h1 => by go_simp⟩) hW ?_
          try simp only [Act.put, List.setIfInBounds_toArray, List.set_cons_zero, List.set_cons_succ]
          refine wpAnyH_take (i := 3) (oi := ⟨some 46, _, _, _, _, _⟩) (v := .pointer (some ⟨wr.heap.size, 0, none⟩)) rfl (by kernel_rfl) (by kernel_rfl) (by kernel_rfl) (fun _ _ _ h => h) (.inl ⟨by rfl, fun W1 h1 => by go_simp⟩) hW ?_
          try simp only [Act.put, List.setIfInBounds_toArray, List.set_cons_zero, List.set_cons_succ]
          refine wpAnyH_take (i := 4) (oi := ⟨some 47, _, _, _, _, _⟩) (v := .pointer (some ⟨wr.heap.size, 1, none⟩)) rfl (by kernel_rfl) (by kernel_rfl) (by kernel_rfl) (fun _ _ _ h => h) (.inl ⟨by rfl, fun W1 h1 => by go_simp⟩) hW ?_
          try simp only [Act.put, List.setIfInBounds_toArray, List.set_cons_zero, List.set_cons_succ]
          refine wpAnyH_take (i := 5) (oi := ⟨some 48, _, _, _, _, _⟩) (v := .slice A2 n2 c2) rfl (by kernel_rfl) (by kernel_rfl) (by kernel_rfl) (fun _ _ _ h => h) (.inl ⟨by rfl, fun W1 h1 => by (have x1 : W1.cell? ⟨wr.heap.size, 1, none⟩ = some (.slice A2 n2 c2) := (by rw [cell_of_row _ _ 1 _ 133 (0, 0) h1.2]; rfl)); go_simp⟩) hW ?_
          try simp only [Act.put, List.setIfInBounds_toArray, List.set_cons_zero, List.set_cons_succ]
          refine wpAnyH_take (i := 6) (oi := ⟨some 49, _, _, _, _, _⟩) (v := .string inn) rfl (by kernel_rfl) (by kernel_rfl) (by kernel_rfl) (fun _ _ _ h => h) (.inl ⟨by rfl, fun W1 h1 => by (have x1 := Kd.C_string (c := c2) (P := Try.prog) Try.underlying31 Try.underlying5 Try.underlying9 (Kd.C_below HCA.out.i h1.1); rw [str_bytes] at x1); go_simp⟩) hW ?_
          try simp only [Act.put, List.setIfInBounds_toArray, List.set_cons_zero, List.set_cons_succ]
          refine wpAnyH_ready (rs := [1]) (by kernel_rfl) (by simp) (AllReadyH.cons rfl (fun K1 hK1 => ?_) AllReadyH.nil)
          refine wp_zero (o := ⟨some 44, _, _, _, _, _⟩) rfl ?_
          have hb1 := below_alloc (Below.refl W.heap.size W) (.cells #[.int .u8 0] 5)
          refine hK1.out _ _ ⟨below_then P6.out.below P6.out.below.size hb1, blk_below G6.out hb1⟩ (fun hW => ?_)
          try simp only [Act.put, List.setIfInBounds_toArray, List.set_cons_zero, List.set_cons_succ]
          refine wpAnyH_ready (rs := [2]) (by kernel_rfl) (by simp) (AllReadyH.cons rfl (fun K3 hK3 => ?_) AllReadyH.nil)
          refine wp_app1 (o := ⟨some 45, _, _, _, _, _⟩) P6.out (by decide) (.tmp 43) (.tmp 44) rfl 0 rfl rfl (by omega) ?_
          intro v45 W3 ho45 hg45
          have P45' := Aside0.mk ho45
          have G45' := Aside0.mk (blk_grown G6.out hg45 (Kd.R_ne P6.out.row G6.out (by decide)))
          clear ho45 hg45 hb1
          refine hK3.out _ _ ⟨P45'.out.below, G45'.out⟩ (fun hW => ?_)
          try simp only [Act.put, List.setIfInBounds_toArray, List.set_cons_zero, List.set_cons_succ]
          refine wpAnyH_ready (rs := [7]) (by kernel_rfl) (by simp) (AllReadyH.cons rfl (fun K5 hK5 => ?_) AllReadyH.nil)
          go_simp
          refine (text_calls none 0 0 [] rfl inn W3 (Kd.C_nil _ _) (by omega) (by omega)).mono ?_
          rintro e W4 ⟨v50, rfl, hr50, hb50⟩
          have P45 := Aside0.mk (P45'.out.on hb50)
          have G45 := Aside0.mk (blk_below G45'.out hb50)
          rw [List.nil_append] at hr50
          obtain ⟨A50, c50, rfl, hle50, hC50⟩ := Kd.R_reads hr50
          have HC50 := Aside0.mk hC50
          clear hr50 hb50 hle50 hC50 P45' G45'
          refine hK5.out _ _ ⟨P45.out.below, G45.out⟩ (fun hW => ?_)
          try simp only [Act.put, List.setIfInBounds_toArray, List.set_cons_zero, List.set_cons_succ]
          refine wpAnyH_ready (rs := [8]) (by kernel_rfl) (by simp) (AllReadyH.cons rfl (fun K9 hK9 => ?_) AllReadyH.nil)
          refine wp_appRow (o := ⟨some 51, _, _, _, _, _⟩) P45.out (by decide) (.tmp 45) (.tmp 50) rfl _ _ _ _ rfl rfl HC50.out (by rw [List.length_append]; simp; omega) (by omega) ?_
          intro v51 W5 ho51 hg51
          have PZ := Aside0.mk ho51
          have GZ := Aside0.mk (blk_grown G45.out hg51 (Kd.R_ne P45.out.row G45.out (by decide)))
          clear hg51 ho51
          refine hK9.out _ _ ⟨PZ.out.below, GZ.out⟩ (fun hW => ?_)
          try simp only [Act.put, List.setIfInBounds_toArray, List.set_cons_zero, List.set_cons_succ]
          refine wpAnyH_take (i := 9) (oi := ⟨some 4, _, _, _, _, _⟩) (v := v51) rfl (by kernel_rfl) (by kernel_rfl) (by kernel_rfl) (fun _ _ _ h => h) (.inl ⟨by rfl, fun W1 h1 => by go_simp⟩) hW ?_
          try simp only [Act.put, List.setIfInBounds_toArray, List.set_cons_zero, List.set_cons_succ]
          refine wpAnyH_done (by kernel_rfl) ?_ _
          clear hW
          have x6 : W5.cell? ⟨wr.heap.size, 2, none⟩ = some (.slice A3 n3 c3) := by rw [cell_of_row _ _ 2 _ 133 (0, 0) GZ.out]; rfl
          have x7 := Kd.C_string (c := c3) (P := Try.prog) Try.underlying31 Try.underlying5 Try.underlying9 (Kd.C_below HCA.out.d PZ.out.below)
          rw [str_bytes] at x7
          have hL8 : (m6 ++ [0] ++ textL inn).length ≤ 400000 := by rw [List.length_append, List.length_append]; simp only [List.length_cons, List.length_nil]; omega
          generalize hm8 : m6 ++ [0] ++ textL inn = m8 at *
          go_wp2_with fail
          refine (text_calls none 0 0 [] rfl data W5 (Kd.C_nil _ _) (by omega) (by omega)).mono ?_
          rintro e w9 ⟨v9, rfl, hr9, hb9⟩
          have P9 := Aside0.mk (PZ.out.on hb9)
          rw [List.nil_append] at hr9
          obtain ⟨A9, c9, rfl, hle9, hC9⟩ := Kd.R_reads hr9
          have HC9 := Aside0.mk hC9
          have hL9 := textL_le data (by omega)
          clear hr9 hb9 hle9 hC9 x6 x7 PZ GZ
          go_wp2_with (at_builtin; refine P9.out.appRow (by decide) rfl (.tmp 52) (.tmp 57) rfl _ _ _ _ rfl rfl HC9.out (by omega) (by omega) ?_; intro v10 w10 ho10 hg10; have PA := Aside0.mk ho10; clear ho10 hg10)
          go_roundw
          case rel =>
            exact ⟨j + 1, _, by go_num, by omega, HM7, PA⟩
          case measure => simp [intOf]; omega
      · obtain rfl : j = n := by omega
        obtain ⟨A5, c5, rfl, hle5, hC5⟩ := Kd.R_reads PJ.out.row
        have HC5 := Aside0.mk hC5
        have HB := Aside0.mk (show Byt out by rw [ho.out]; exact partS_byt _ _)
        have HO := Aside0.mk (show out = bodyL X by
          have hl : X.l.length = j := by rw [HX.out]; exact HLEN.out
          rw [ho.out, ← partS_all X, hl])
        have hsl := sumN_lt out
        clear hC5 hle5
        go_wp2_with fail
        refine (sum_calls _ _ _ out rfl wr HC5.out HB.out).mono ?_
        rintro e w6 ⟨rfl, hb6⟩
        have P6 := Aside0.mk (PJ.out.on hb6)
        have HC6 := Aside0.mk (Kd.C_below HC5.out hb6)
        have PB := Aside0.mk (P6.out.on (below_alloc (Below.refl w6.heap.size w6) (.cells #[.int .u64 (sumN out : Int)] 103)))
        have QB := Aside0.mk (C64_at w6 [(sumN out : Int)] 103 _ rfl (by simp))
        simp only [List.map_cons, List.map_nil] at QB
        have HC7 := Aside0.mk (Kd.C_below HC6.out (below_alloc (Below.refl w6.heap.size w6) (.cells #[.int .u64 (sumN out : Int)] 103)))
        clear hb6 HC5 PJ
        go_wp2_with fail
        generalize (w6.alloc (.cells #[.int .u64 (sumN out : Int)] 103)) = w7 at *
        refine (CodB.fixed_calls _ _ out 4 (some ⟨w6.heap.size, 0, none⟩) 1 [(sumN out : Int)] w7 HC7.out (by omega) (by decide) (by decide) QB.out (by simp) (by intro x hx; simp at hx; omega)).mono ?_
        rintro e w8 ⟨v8, rfl, hr8, hb8⟩
        have P8 := Aside0.mk (PB.out.call hr8 hb8)
        clear hr8 hb8
        go_wp2
        rw [HP.out, ← HX.out]
        refine ⟨_, by rw [codeS, HR.out]; rfl, ?_, P8.out.below⟩
        rw [outS, HR.out, if_pos rfl, stmL, ← HO.out]
        have := P8.out.row
        simpa using this
end Go.Proofs.Ytfefpbnhpncmlaa.StmP
namespace Go.Proofs.Ytfefpbnhpncmlaa.StmR
open Go.RowKit Go.Proofs.Ytfefpbnhpncmlaa.EntL Go.Proofs.Ytfefpbnhpncmlaa.EntB Go.Proofs.Ytfefpbnhpncmlaa.EntC Go.Proofs.Ytfefpbnhpncmlaa.EntD Go.Proofs.Ytfefpbnhpncmlaa.EntE Go.Proofs.Ytfefpbnhpncmlaa.EntF Go.Proofs.Ytfefpbnhpncmlaa.CatR Go.Proofs.Ytfefpbnhpncmlaa.CatT Go.Proofs.Ytfefpbnhpncmlaa.CatU Go.Proofs.Ytfefpbnhpncmlaa.CatK Go.Proofs.Ytfefpbnhpncmlaa.CatS Go.Proofs.Ytfefpbnhpncmlaa.CatY Go.Proofs.Ytfefpbnhpncmlaa.RefG Go.Proofs.Ytfefpbnhpncmlaa.PtrB Go.Proofs.Ytfefpbnhpncmlaa.PtrG Go.Proofs.Ytfefpbnhpncmlaa.Agg Go.Proofs.Ytfefpbnhpncmlaa.B8 Go.Proofs.Ytfefpbnhpncmlaa.CodL Go.Proofs.Ytfefpbnhpncmlaa.CodA Go.Proofs.Ytfefpbnhpncmlaa.CodB Go.Proofs.Ytfefpbnhpncmlaa.CatL Go.Proofs.Ytfefpbnhpncmlaa.PtrA Go.Proofs.Ytfefpbnhpncmlaa.PtrE Go.Proofs.Ytfefpbnhpncmlaa.PtrF Go.Proofs.Ytfefpbnhpncmlaa.PBaseSigns Go.Proofs.YtfefpbnhpncmlaaW.PrintWords Go.Proofs.YtfefpbnhpncmlaaW.PrintLast Go.Proofs.YtfefpbnhpncmlaaW.PrintMore Go.Proofs.Ytfefpbnhpncmlaa.EntG Go.Proofs.Ytfefpbnhpncmlaa.StmA Go.Proofs.Ytfefpbnhpncmlaa.StmB Go.Proofs.Ytfefpbnhpncmlaa.StmC Go.Proofs.Ytfefpbnhpncmlaa.CrcC Go.Proofs.Ytfefpbnhpncmlaa.StmD Go.Proofs.Ytfefpbnhpncmlaa.StmE Go.Proofs.Ytfefpbnhpncmlaa.CrcL Go.Proofs.Ytfefpbnhpncmlaa.StmL Go.Proofs.Ytfefpbnhpncmlaa.StmF Go.Proofs.Ytfefpbnhpncmlaa.StmG Go.Proofs.Ytfefpbnhpncmlaa.StmH Go.Proofs.Ytfefpbnhpncmlaa.StmI Go.Proofs.Ytfefpbnhpncmlaa.StmJ Go.Proofs.Ytfefpbnhpncmlaa.StmK Go.Proofs.Ytfefpbnhpncmlaa.StmM Go.Proofs.Ytfefpbnhpncmlaa.StmN Go.Proofs.Ytfefpbnhpncmlaa.StmO Go.Proofs.Ytfefpbnhpncmlaa.StmP
set_option linter.unusedVariables false
set_option linter.unusedSimpArgs false

theorem run_min (x y : Int) (ats : Array TypeId) (ty : TypeId) (W : World) : (Builtin.min_ ats ty #[.int .i64 x, .int .i64 y]).run Try.prog W = .ok (.int .i64 (min x y)) W := by
  unfold Builtin.min_ Builtin.min2
  by_cases h : y < x
  · simp [h, Int.min_def, show ¬ x ≤ y from by omega]
  · simp [h, Int.min_def, show x ≤ y from by omega]
set_option maxRecDepth 100000 in
set_option maxHeartbeats 1000000 in
theorem few_calls (x : Stm) (A : Option Addr) (c n : Nat) (xs : List Sl) (w : World) (h : CR w A n xs x.l) :
    Calls Try.prog 45 #[.agg #[.string x.base, .string x.snap, .slice A n c]] w fun e w' => ∃ q : Bool, e = .returned (.bool q) ∧ (q = true → wtL x.l ≤ 9000) ∧ Below w.heap.size w w' := by
  obtain ⟨base, snap, l⟩ := x
  have H := Aside0.mk h
  have hn63 : n ≤ 9223372036854775807 := h.row.2.1
  have B0 := Aside0.mk (below_alloc (Below.refl w.heap.size w) (.cells #[.string base, .string snap, .slice A n c] 79))
  have G0 := Aside0.mk (blk_new w (.cells #[.string base, .string snap, .slice A n c] 79))
  obtain ⟨P, hP⟩ : ∃ P : Ending → World → Prop, P = (fun e w' => ∃ q : Bool, e = .returned (.bool q) ∧ (q = true → wtL l ≤ 9000) ∧ Below w.heap.size w w') := ⟨_, rfl⟩
  rw [← hP]
  have HP := Aside0.mk hP
  clear hP h
  have m1 := run_min (base.size : Int) 900
  have m2 := run_min (snap.size : Int) 900
  have ms1 : 0 ≤ min (base.size : Int) 900 ∧ min (base.size : Int) 900 ≤ 900 := by omega
  have ms2 : 0 ≤ min (snap.size : Int) 900 ∧ min (snap.size : Int) 900 ≤ 900 := by omega
  go_enter Try.func45, Try.ntmps45
  go_wp2
  generalize hm0 : min (base.size : Int) 900 + min (snap.size : Int) 900 = m0 at *
  have hm1 : 0 ≤ m0 ∧ m0 ≤ 1800 := by omega
  generalize hW0 : w.alloc (.cells #[.string base, .string snap, .slice A n c] 79) = W0 at *
  clear hW0
  clear m1 m2 ms1 ms2 hm0
  go_loopw [3, 4] (fun v3 v4 wr => ∃ (j : Nat) (m : Int), v3 = .int .i64 m ∧ v4 = .int .i64 (j : Int) ∧ j ≤ n ∧ 20 * (j : Int) ≤ m ∧ m ≤ 40000 ∧ (m < 9000 → (wtL (l.take j) : Int) ≤ m) ∧ Aside0 (Below W0.heap.size W0 wr)) (fun _ v _ => n - (intOf v).toNat)
  case atStart => exact ⟨0, m0, rfl, rfl, Nat.zero_le _, by omega, by omega, fun _ => by rw [List.take_zero, wtL_nil]; omega, ⟨Below.refl _ _⟩⟩
  case round =>
    obtain ⟨j, m, rfl, rfl, hj, hm20, hm40, hwt, HB'⟩ := hrel
    have HB := Aside0.mk (below_then B0.out B0.out.size HB'.out)
    have G1 := Aside0.mk (blk_below G0.out HB'.out)
    have x2 : wr.cell? ⟨w.heap.size, 2, none⟩ = some (.slice A n c) := by rw [cell_of_row _ _ 2 _ 79 (0, 0) G1.out]; rfl
    by_cases hlt : j < n
    · have dj : decide ((j : Int) < (n : Int)) = true := decide_eq_true (by omega)
      by_cases hm9 : m < 9000
      · have dm : decide (m < 9000) = true := decide_eq_true hm9
        obtain ⟨b, off, rfl, hb, hx⟩ := CF_at H.out.row (by omega)
        have hxj := hx j hlt
        have hca := H.out.each j hlt
        obtain ⟨p, hp⟩ : ∃ p, p = xs.getD j default := ⟨_, rfl⟩
        obtain ⟨y, hy⟩ : ∃ y, y = l.getD j default := ⟨_, rfl⟩
        rw [← hp] at hxj hca
        rw [← hy] at hca
        have HXW := Aside0.mk hxj
        have HY := Aside0.mk (show l.take (j + 1) = l.take j ++ [y] by
          have hl : l.length = n := H.out.len
          rw [List.take_add_one, List.getElem?_eq_getElem (by omega), hy, List.getD_eq_getElem?_getD, List.getElem?_eq_getElem (by omega)]; rfl)
        have l1 : p.n1 = y.key.size := by have := hca.1.k.1; rw [bytesOf_len] at this; exact this.symm
        have l2 : p.n2 = y.inn.size := by have := hca.1.i.1; rw [bytesOf_len] at this; exact this.symm
        have l3 : p.n3 = y.data.size := by have := hca.1.d.1; rw [bytesOf_len] at this; exact this.symm
        have hw2 := hwt hm9
        obtain ⟨A1, n1, c1, A2, n2, c2, A3, n3, c3, g⟩ := p
        simp only at l1 l2 l3
        have hs1 : 0 ≤ min (n1 : Int) 9000 ∧ min (n1 : Int) 9000 ≤ 9000 := by omega
        have hs2 : 0 ≤ min (n2 : Int) 9000 ∧ min (n2 : Int) 9000 ≤ 9000 := by omega
        have hs3 : 0 ≤ min (n3 : Int) 9000 ∧ min (n3 : Int) 9000 ≤ 9000 := by omega
        have HF : Aside0 (m + 20 + min (n1 : Int) 9000 + min (n2 : Int) 9000 + min (n3 : Int) 9000 < 9000 → (wtL (l.take (j + 1)) : Int) ≤ m + 20 + min (n1 : Int) 9000 + min (n2 : Int) 9000 + min (n3 : Int) 9000) := ⟨fun hlt9 => by
          rw [HY.out, wtL_snoc, wtC]
          omega⟩
        clear hxj hca hp hy hx hwt
        go_wp2
        have hS0 : Below w.heap.size w wr.drew ∧ wr.drew.heap[w.heap.size]? = some (.cells #[.string base, .string snap, .slice (some ⟨b, off, none⟩) n c] 79 (0, 0)) := ⟨below_then HB.out HB.out.size (below_drew (Below.refl _ _)), blk_below G1.out (below_drew (Below.refl _ _))⟩
        have HBD := Aside0.mk (below_then HB'.out HB'.out.size (below_drew (Below.refl wr.heap.size wr)))
        refine wp_region_held_drew (S := fun w' => Below w.heap.size w w' ∧ w'.heap[w.heap.size]? = some (.cells #[.string base, .string snap, .slice (some ⟨b, off, none⟩) n c] 79 (0, 0))) (by kernel_rfl) hS0 (fun hW => ?_)
        refine wpAnyH_take (i := 0) (oi := ⟨some 25, _, _, _, _, _⟩) (v := .int .i64 m) rfl (by kernel_rfl) (by kernel_rfl) (by kernel_rfl) (fun _ _ _ h => h) (.inl ⟨by rfl, fun W1 h1 => by go_simp⟩) hW ?_
        try simp only [Act.put, List.setIfInBounds_toArray, List.set_cons_zero, List.set_cons_succ]
        refine wpAnyH_take (i := 1) (oi := ⟨some 26, _, _, _, _, _⟩) (v := .int .i64 (m + 20)) rfl (by kernel_rfl) (by kernel_rfl) (by kernel_rfl) (fun _ _ _ h => h) (.inl ⟨by rfl, fun W1 h1 => by go_simp; rw [IntKind.wrap_i64]; omega⟩) hW ?_
        try simp only [Act.put, List.setIfInBounds_toArray, List.set_cons_zero, List.set_cons_succ]
        refine wpAnyH_take (i := 2) (oi := ⟨some 27, _, _, _, _, _⟩) (v := .pointer (some ⟨w.heap.size, 2, none⟩)) rfl (by kernel_rfl) (by kernel_rfl) (by kernel_rfl) (fun _ _ _ h => h) (.inl ⟨by rfl, fun W1 h1 => by go_simp⟩) hW ?_
        try simp only [Act.put, List.setIfInBounds_toArray, List.set_cons_zero, List.set_cons_succ]
        refine wpAnyH_take (i := 3) (oi := ⟨some 28, _, _, _, _, _⟩) (v := .slice (some ⟨b, off, none⟩) n c) rfl (by kernel_rfl) (by kernel_rfl) (by kernel_rfl) (fun _ _ _ h => h) (.inl ⟨by rfl, fun W1 h1 => by (have x1 : W1.cell? ⟨w.heap.size, 2, none⟩ = some (.slice (some ⟨b, off, none⟩) n c) := (by rw [cell_of_row _ _ 2 _ 79 (0, 0) h1.2]; rfl)); go_simp⟩) hW ?_
        try simp only [Act.put, List.setIfInBounds_toArray, List.set_cons_zero, List.set_cons_succ]
        refine wpAnyH_take (i := 4) (oi := ⟨some 29, _, _, _, _, _⟩) (v := .int .i64 (j : Int)) rfl (by kernel_rfl) (by kernel_rfl) (by kernel_rfl) (fun _ _ _ h => h) (.inl ⟨by rfl, fun W1 h1 => by go_simp⟩) hW ?_
        try simp only [Act.put, List.setIfInBounds_toArray, List.set_cons_zero, List.set_cons_succ]
        refine wpAnyH_take (i := 5) (oi := ⟨some 30, _, _, _, _, _⟩) (v := .pointer (some ⟨b, off + j * 4, none⟩)) rfl (by kernel_rfl) (by kernel_rfl) (by kernel_rfl) (fun _ _ _ h => h) (.inl ⟨by rfl, fun W1 h1 => by go_simp⟩) hW ?_
        try simp only [Act.put, List.setIfInBounds_toArray, List.set_cons_zero, List.set_cons_succ]
        refine wpAnyH_take (i := 6) (oi := ⟨some 31, _, _, _, _, _⟩) (v := .pointer (some ⟨b, off + j * 4, none⟩)) rfl (by kernel_rfl) (by kernel_rfl) (by kernel_rfl) (fun _ _ _ h => h) (.inl ⟨by rfl, fun W1 h1 => by go_simp⟩) hW ?_
        try simp only [Act.put, List.setIfInBounds_toArray, List.set_cons_zero, List.set_cons_succ]
        refine wpAnyH_take (i := 7) (oi := ⟨some 32, _, _, _, _, _⟩) (v := .pointer (some ⟨b, off + j * 4, none⟩)) rfl (by kernel_rfl) (by kernel_rfl) (by kernel_rfl) (fun _ _ _ h => h) (.inl ⟨by rfl, fun W1 h1 => by go_simp⟩) hW ?_
        try simp only [Act.put, List.setIfInBounds_toArray, List.set_cons_zero, List.set_cons_succ]
        refine wpAnyH_take (i := 8) (oi := ⟨some 33, _, _, _, _, _⟩) (v := .slice A1 n1 c1) rfl (by kernel_rfl) (by kernel_rfl) (by kernel_rfl) (fun _ _ _ h => h) (.inl ⟨by rfl, fun W1 h1 => by (have x1 : W1.cell? ⟨b, off + j * 4, none⟩ = some (.slice A1 n1 c1) := (rangeAt_below HXW.out h1.1 hb) 0 _ rfl); go_simp⟩) hW ?_
        try simp only [Act.put, List.setIfInBounds_toArray, List.set_cons_zero, List.set_cons_succ]
        refine wpAnyH_take (i := 9) (oi := ⟨some 34, _, _, _, _, _⟩) (v := .int .i64 (n1 : Int)) rfl (by kernel_rfl) (by kernel_rfl) (by kernel_rfl) (fun _ _ _ h => h) (.inl ⟨by rfl, fun W1 h1 => by go_simp⟩) hW ?_
        try simp only [Act.put, List.setIfInBounds_toArray, List.set_cons_zero, List.set_cons_succ]
        refine wpAnyH_take (i := 10) (oi := ⟨some 35, _, _, _, _, _⟩) (v := .int .i64 (min (n1 : Int) 9000)) rfl (by kernel_rfl) (by kernel_rfl) (by kernel_rfl) (fun _ _ _ h => h) (.inl ⟨by rfl, fun W1 h1 => by (have x1 := run_min (n1 : Int) 9000); go_simp⟩) hW ?_
        try simp only [Act.put, List.setIfInBounds_toArray, List.set_cons_zero, List.set_cons_succ]
        refine wpAnyH_take (i := 11) (oi := ⟨some 36, _, _, _, _, _⟩) (v := .int .i64 (m + 20 + min (n1 : Int) 9000)) rfl (by kernel_rfl) (by kernel_rfl) (by kernel_rfl) (fun _ _ _ h => h) (.inl ⟨by rfl, fun W1 h1 => by go_simp; rw [IntKind.wrap_i64]; omega⟩) hW ?_
        try simp only [Act.put, List.setIfInBounds_toArray, List.set_cons_zero, List.set_cons_succ]
        refine wpAnyH_take (i := 12) (oi := ⟨some 37, _, _, _, _, _⟩) (v := .pointer (some ⟨w.heap.size, 2, none⟩)) rfl (by kernel_rfl) (by kernel_rfl) (by kernel_rfl) (fun _ _ _ h => h) (.inl ⟨by rfl, fun W1 h1 => by go_simp⟩) hW ?_
        try simp only [Act.put, List.setIfInBounds_toArray, List.set_cons_zero, List.set_cons_succ]
        refine wpAnyH_take (i := 13) (oi := ⟨some 38, _, _, _, _, _⟩) (v := .slice (some ⟨b, off, none⟩) n c) rfl (by kernel_rfl) (by kernel_rfl) (by kernel_rfl) (fun _ _ _ h => h) (.inl ⟨by rfl, fun W1 h1 => by (have x1 : W1.cell? ⟨w.heap.size, 2, none⟩ = some (.slice (some ⟨b, off, none⟩) n c) := (by rw [cell_of_row _ _ 2 _ 79 (0, 0) h1.2]; rfl)); go_simp⟩) hW ?_
        try simp only [Act.put, List.setIfInBounds_toArray, List.set_cons_zero, List.set_cons_succ]
        refine wpAnyH_take (i := 14) (oi := ⟨some 39, _, _, _, _, _⟩) (v := .int .i64 (j : Int)) rfl (by kernel_rfl) (by kernel_rfl) (by kernel_rfl) (fun _ _ _ h => h) (.inl ⟨by rfl, fun W1 h1 => by go_simp⟩) hW ?_
        try simp only [Act.put, List.setIfInBounds_toArray, List.set_cons_zero, List.set_cons_succ]
        refine wpAnyH_take (i := 15) (oi := ⟨some 40, _, _, _, _, _⟩) (v := .pointer (some ⟨b, off + j * 4, none⟩)) rfl (by kernel_rfl) (by kernel_rfl) (by kernel_rfl) (fun _ _ _ h => h) (.inl ⟨by rfl, fun W1 h1 => by go_simp⟩) hW ?_
        try simp only [Act.put, List.setIfInBounds_toArray, List.set_cons_zero, List.set_cons_succ]
        refine wpAnyH_take (i := 16) (oi := ⟨some 41, _, _, _, _, _⟩) (v := .pointer (some ⟨b, off + j * 4, none⟩)) rfl (by kernel_rfl) (by kernel_rfl) (by kernel_rfl) (fun _ _ _ h => h) (.inl ⟨by rfl, fun W1 h1 => by go_simp⟩) hW ?_
        try simp only [Act.put, List.setIfInBounds_toArray, List.set_cons_zero, List.set_cons_succ]
        refine wpAnyH_take (i := 17) (oi := ⟨some 42, _, _, _, _, _⟩) (v := .pointer (some ⟨b, off + j * 4 + 1, none⟩)) rfl (by kernel_rfl) (by kernel_rfl) (by kernel_rfl) (fun _ _ _ h => h) (.inl ⟨by rfl, fun W1 h1 => by go_simp⟩) hW ?_
        try simp only [Act.put, List.setIfInBounds_toArray, List.set_cons_zero, List.set_cons_succ]
        refine wpAnyH_take (i := 18) (oi := ⟨some 43, _, _, _, _, _⟩) (v := .slice A2 n2 c2) rfl (by kernel_rfl) (by kernel_rfl) (by kernel_rfl) (fun _ _ _ h => h) (.inl ⟨by rfl, fun W1 h1 => by (have x1 : W1.cell? ⟨b, off + j * 4 + 1, none⟩ = some (.slice A2 n2 c2) := (rangeAt_below HXW.out h1.1 hb) 1 _ rfl); go_simp⟩) hW ?_
        try simp only [Act.put, List.setIfInBounds_toArray, List.set_cons_zero, List.set_cons_succ]
        refine wpAnyH_take (i := 19) (oi := ⟨some 44, _, _, _, _, _⟩) (v := .int .i64 (n2 : Int)) rfl (by kernel_rfl) (by kernel_rfl) (by kernel_rfl) (fun _ _ _ h => h) (.inl ⟨by rfl, fun W1 h1 => by go_simp⟩) hW ?_
        try simp only [Act.put, List.setIfInBounds_toArray, List.set_cons_zero, List.set_cons_succ]
        refine wpAnyH_take (i := 20) (oi := ⟨some 45, _, _, _, _, _⟩) (v := .int .i64 (min (n2 : Int) 9000)) rfl (by kernel_rfl) (by kernel_rfl) (by kernel_rfl) (fun _ _ _ h => h) (.inl ⟨by rfl, fun W1 h1 => by (have x1 := run_min (n2 : Int) 9000); go_simp⟩) hW ?_
        try simp only [Act.put, List.setIfInBounds_toArray, List.set_cons_zero, List.set_cons_succ]
        refine wpAnyH_take (i := 21) (oi := ⟨some 46, _, _, _, _, _⟩) (v := .int .i64 (m + 20 + min (n1 : Int) 9000 + min (n2 : Int) 9000)) rfl (by kernel_rfl) (by kernel_rfl) (by kernel_rfl) (fun _ _ _ h => h) (.inl ⟨by rfl, fun W1 h1 => by go_simp; rw [IntKind.wrap_i64]; omega⟩) hW ?_
        try simp only [Act.put, List.setIfInBounds_toArray, List.set_cons_zero, List.set_cons_succ]
        refine wpAnyH_take (i := 22) (oi := ⟨some 47, _, _, _, _, _⟩) (v := .pointer (some ⟨w.heap.size, 2, none⟩)) rfl (by kernel_rfl) (by kernel_rfl) (by kernel_rfl) (fun _ _ _ h => h) (.inl ⟨by rfl, fun W1 h1 => by go_simp⟩) hW ?_
        try simp only [Act.put, List.setIfInBounds_toArray, List.set_cons_zero, List.set_cons_succ]
        refine wpAnyH_take (i := 23) (oi := ⟨some 48, _, _, _, _, _⟩) (v := .slice (some ⟨b, off, none⟩) n c) rfl (by kernel_rfl) (by kernel_rfl) (by kernel_rfl) (fun _ _ _ h => h) (.inl ⟨by rfl, fun W1 h1 => by (have x1 : W1.cell? ⟨w.heap.size, 2, none⟩ = some (.slice (some ⟨b, off, none⟩) n c) := (by rw [cell_of_row _ _ 2 _ 79 (0, 0) h1.2]; rfl)); go_simp⟩) hW ?_
        try simp only [Act.put, List.setIfInBounds_toArray, List.set_cons_zero, List.set_cons_succ]
        refine wpAnyH_take (i := 24) (oi := ⟨some 49, _, _, _, _, _⟩) (v := .int .i64 (j : Int)) rfl (by kernel_rfl) (by kernel_rfl) (by kernel_rfl) (fun _ _ _ h => h) (.inl ⟨by rfl, fun W1 h1 => by go_simp⟩) hW ?_
        try simp only [Act.put, List.setIfInBounds_toArray, List.set_cons_zero, List.set_cons_succ]
        refine wpAnyH_take (i := 25) (oi := ⟨some 50, _, _, _, _, _⟩) (v := .pointer (some ⟨b, off + j * 4, none⟩)) rfl (by kernel_rfl) (by kernel_rfl) (by kernel_rfl) (fun _ _ _ h => h) (.inl ⟨by rfl, fun W1 h1 => by go_simp⟩) hW ?_
        try simp only [Act.put, List.setIfInBounds_toArray, List.set_cons_zero, List.set_cons_succ]
        refine wpAnyH_take (i := 26) (oi := ⟨some 51, _, _, _, _, _⟩) (v := .pointer (some ⟨b, off + j * 4, none⟩)) rfl (by kernel_rfl) (by kernel_rfl) (by kernel_rfl) (fun _ _ _ h => h) (.inl ⟨by rfl, fun W1 h1 => by go_simp⟩) hW ?_
        try simp only [Act.put, List.setIfInBounds_toArray, List.set_cons_zero, List.set_cons_succ]
        refine wpAnyH_take (i := 27) (oi := ⟨some 52, _, _, _, _, _⟩) (v := .pointer (some ⟨b, off + j * 4 + 2, none⟩)) rfl (by kernel_rfl) (by kernel_rfl) (by kernel_rfl) (fun _ _ _ h => h) (.inl ⟨by rfl, fun W1 h1 => by go_simp⟩) hW ?_
        try simp only [Act.put, List.setIfInBounds_toArray, List.set_cons_zero, List.set_cons_succ]
        refine wpAnyH_take (i := 28) (oi := ⟨some 53, _, _, _, _, _⟩) (v := .slice A3 n3 c3) rfl (by kernel_rfl) (by kernel_rfl) (by kernel_rfl) (fun _ _ _ h => h) (.inl ⟨by rfl, fun W1 h1 => by (have x1 : W1.cell? ⟨b, off + j * 4 + 2, none⟩ = some (.slice A3 n3 c3) := (rangeAt_below HXW.out h1.1 hb) 2 _ rfl); go_simp⟩) hW ?_
        try simp only [Act.put, List.setIfInBounds_toArray, List.set_cons_zero, List.set_cons_succ]
        refine wpAnyH_take (i := 29) (oi := ⟨some 54, _, _, _, _, _⟩) (v := .int .i64 (n3 : Int)) rfl (by kernel_rfl) (by kernel_rfl) (by kernel_rfl) (fun _ _ _ h => h) (.inl ⟨by rfl, fun W1 h1 => by go_simp⟩) hW ?_
        try simp only [Act.put, List.setIfInBounds_toArray, List.set_cons_zero, List.set_cons_succ]
        refine wpAnyH_take (i := 30) (oi := ⟨some 55, _, _, _, _, _⟩) (v := .int .i64 (min (n3 : Int) 9000)) rfl (by kernel_rfl) (by kernel_rfl) (by kernel_rfl) (fun _ _ _ h => h) (.inl ⟨by rfl, fun W1 h1 => by (have x1 := run_min (n3 : Int) 9000); go_simp⟩) hW ?_
        try simp only [Act.put, List.setIfInBounds_toArray, List.set_cons_zero, List.set_cons_succ]
        refine wpAnyH_take (i := 31) (oi := ⟨some 56, _, _, _, _, _⟩) (v := .int .i64 (m + 20 + min (n1 : Int) 9000 + min (n2 : Int) 9000 + min (n3 : Int) 9000)) rfl (by kernel_rfl) (by kernel_rfl) (by kernel_rfl) (fun _ _ _ h => h) (.inl ⟨by rfl, fun W1 h1 => by go_simp; rw [IntKind.wrap_i64]; omega⟩) hW ?_
        try simp only [Act.put, List.setIfInBounds_toArray, List.set_cons_zero, List.set_cons_succ]
        refine wpAnyH_take (i := 32) (oi := ⟨some 3, _, _, _, _, _⟩) (v := .int .i64 (m + 20 + min (n1 : Int) 9000 + min (n2 : Int) 9000 + min (n3 : Int) 9000)) rfl (by kernel_rfl) (by kernel_rfl) (by kernel_rfl) (fun _ _ _ h => h) (.inl ⟨by rfl, fun W1 h1 => by go_simp⟩) hW ?_
        try simp only [Act.put, List.setIfInBounds_toArray, List.set_cons_zero, List.set_cons_succ]
        refine wpAnyH_done (by kernel_rfl) ?_ _
        clear hW hS0
        have hq1 : 20 * ((j : Int) + 1) ≤ m + 20 + min (n1 : Int) 9000 + min (n2 : Int) 9000 + min (n3 : Int) 9000 := by omega
        have hq2 : m + 20 + min (n1 : Int) 9000 + min (n2 : Int) 9000 + min (n3 : Int) 9000 ≤ 40000 := by omega
        generalize m + 20 + min (n1 : Int) 9000 + min (n2 : Int) 9000 + min (n3 : Int) 9000 = m5 at *
        go_wp2
        go_roundw
        case rel => exact ⟨j + 1, m5, rfl, by go_num, by omega, by omega, by omega, HF.out, HBD⟩
        case measure => simp [intOf]; omega
      · have dm : decide (m < 9000) = false := decide_eq_false hm9
        go_wp2
        rw [HP.out]
        exact ⟨false, rfl, fun h => by simp at h, HB.out⟩
    · have dj : decide ((j : Int) < (n : Int)) = false := decide_eq_false (by omega)
      have HL := Aside0.mk (show l.take j = l from List.take_of_length_le (by have hl : l.length = n := H.out.len; omega))
      rw [HL.out] at hwt
      by_cases hm9 : m < 9000
      · have dm : decide (m < 9000) = true := decide_eq_true hm9
        have hw2 := hwt hm9
        clear hwt
        go_wp2
        rw [HP.out]
        exact ⟨true, rfl, fun _ => by omega, HB.out⟩
      · have dm : decide (m < 9000) = false := decide_eq_false hm9
        clear hwt
        go_wp2
        rw [HP.out]
        exact ⟨false, rfl, fun h => by simp at h, HB.out⟩
end Go.Proofs.Ytfefpbnhpncmlaa.StmR
namespace Go.Proofs.Ytfefpbnhpncmlaa.StmQ
open Go.RowKit Go.Proofs.Ytfefpbnhpncmlaa.EntL Go.Proofs.Ytfefpbnhpncmlaa.EntB Go.Proofs.Ytfefpbnhpncmlaa.EntC Go.Proofs.Ytfefpbnhpncmlaa.EntD Go.Proofs.Ytfefpbnhpncmlaa.EntE Go.Proofs.Ytfefpbnhpncmlaa.EntF Go.Proofs.Ytfefpbnhpncmlaa.CatR Go.Proofs.Ytfefpbnhpncmlaa.CatT Go.Proofs.Ytfefpbnhpncmlaa.CatU Go.Proofs.Ytfefpbnhpncmlaa.CatK Go.Proofs.Ytfefpbnhpncmlaa.CatS Go.Proofs.Ytfefpbnhpncmlaa.CatY Go.Proofs.Ytfefpbnhpncmlaa.RefG Go.Proofs.Ytfefpbnhpncmlaa.PtrB Go.Proofs.Ytfefpbnhpncmlaa.PtrG Go.Proofs.Ytfefpbnhpncmlaa.Agg Go.Proofs.Ytfefpbnhpncmlaa.B8 Go.Proofs.Ytfefpbnhpncmlaa.CodL Go.Proofs.Ytfefpbnhpncmlaa.CodA Go.Proofs.Ytfefpbnhpncmlaa.CodB Go.Proofs.Ytfefpbnhpncmlaa.CatL Go.Proofs.Ytfefpbnhpncmlaa.PtrA Go.Proofs.Ytfefpbnhpncmlaa.PtrE Go.Proofs.Ytfefpbnhpncmlaa.PtrF Go.Proofs.Ytfefpbnhpncmlaa.PBaseSigns Go.Proofs.YtfefpbnhpncmlaaW.PrintWords Go.Proofs.YtfefpbnhpncmlaaW.PrintLast Go.Proofs.YtfefpbnhpncmlaaW.PrintMore Go.Proofs.Ytfefpbnhpncmlaa.EntG Go.Proofs.Ytfefpbnhpncmlaa.StmA Go.Proofs.Ytfefpbnhpncmlaa.StmB Go.Proofs.Ytfefpbnhpncmlaa.StmC Go.Proofs.Ytfefpbnhpncmlaa.CrcC Go.Proofs.Ytfefpbnhpncmlaa.StmD Go.Proofs.Ytfefpbnhpncmlaa.StmE Go.Proofs.Ytfefpbnhpncmlaa.CrcL Go.Proofs.Ytfefpbnhpncmlaa.StmL Go.Proofs.Ytfefpbnhpncmlaa.StmF Go.Proofs.Ytfefpbnhpncmlaa.StmG Go.Proofs.Ytfefpbnhpncmlaa.StmH
set_option linter.unusedVariables false
set_option linter.unusedSimpArgs false

abbrev V41 : Value := .iface 190 (.agg #[.pointer (some ⟨1, 41, none⟩)])
set_option maxRecDepth 100000 in
theorem typeOf_run (W : World) : (callFunc 122 #[.iface 41 (.int .i64 11)]).run Try.prog W = .ok (.value V41) W := by kernel_rfl
set_option maxRecDepth 100000 in
theorem comparable_run (W : World) : (callMethod V41 "Comparable" #[]).run Try.prog W = .ok (.value (.bool true)) W := by kernel_rfl
set_option maxRecDepth 100000 in
theorem is123 (w : World) : Calls Try.prog 123 #[.iface 41 (.int .i64 11), .iface 41 (.int .i64 11), .bool true] w fun e w' => e = .returned (.bool true) ∧ w' = w := by
  obtain ⟨P, hP⟩ : ∃ P : Ending → World → Prop, P = (fun e w' => e = .returned (.bool true) ∧ w' = w) := ⟨_, rfl⟩
  rw [← hP]
  have HP := Aside0.mk hP
  clear hP
  have hq2 : ∀ W : World, (binOp .eql 147 (.iface 41 (.int .i64 11)) (.iface 41 (.int .i64 11))).run Try.prog W = .ok (.bool true) W := fun W => by kernel_rfl
  go_enter Try.func123, Try.ntmps123
  go_wp2
  go_loopw [0] (fun v0 wr => v0 = .iface 41 (.int .i64 11) ∧ wr = w) (fun _ _ => 0)
  case atStart => exact ⟨rfl, rfl⟩
  case round =>
    obtain ⟨rfl, rfl⟩ := hrel
    go_wp2
    rw [HP.out]
    exact ⟨rfl, rfl⟩
set_option maxRecDepth 100000 in
theorem is_form (w : World) : Calls Try.prog 99 #[.iface 41 (.int .i64 11), .iface 41 (.int .i64 11)] w fun e w' => e = .returned (.bool true) ∧ w' = w := by
  obtain ⟨P, hP⟩ : ∃ P : Ending → World → Prop, P = (fun e w' => e = .returned (.bool true) ∧ w' = w) := ⟨_, rfl⟩
  rw [← hP]
  have HP := Aside0.mk hP
  clear hP
  have hq : ∀ W : World, (binOp .eql 147 (.iface 41 (.int .i64 11)) .nilIface).run Try.prog W = .ok (.bool false) W := fun W => by kernel_rfl
  have ht := typeOf_run w
  go_enter Try.func99, Try.ntmps99
  go_wp2_with fail
  change Oper.upon _ _ _ _ _ ((callMethod V41 "Comparable" #[]).run Try.prog w)
  rw [comparable_run w, Oper.upon_value]
  go_wp2_with fail
  refine (is123 w).mono ?_
  rintro e w1 ⟨rfl, rfl⟩
  go_wp2
  rw [HP.out]
  exact ⟨rfl, rfl⟩
end Go.Proofs.Ytfefpbnhpncmlaa.StmQ
namespace Go.Proofs.Ytfefpbnhpncmlaa.CrcM
open Go.Proofs.Ytfefpbnhpncmlaa.CodL Go.Proofs.Ytfefpbnhpncmlaa.CrcL
set_option linter.unusedVariables false

/-- The last four bytes are the sum of the others: so the whole goes to one state. -/
def OkSum (l : List Int) : Prop := leL (l.drop (l.length - 4)) = (sumN (l.take (l.length - 4)) : Int)
end Go.Proofs.Ytfefpbnhpncmlaa.CrcM
namespace Go.Proofs.Ytfefpbnhpncmlaa.StmS
open Go.RowKit Go.Proofs.Ytfefpbnhpncmlaa.EntL Go.Proofs.Ytfefpbnhpncmlaa.EntB Go.Proofs.Ytfefpbnhpncmlaa.EntC Go.Proofs.Ytfefpbnhpncmlaa.EntD Go.Proofs.Ytfefpbnhpncmlaa.EntE Go.Proofs.Ytfefpbnhpncmlaa.EntF Go.Proofs.Ytfefpbnhpncmlaa.CatR Go.Proofs.Ytfefpbnhpncmlaa.CatT Go.Proofs.Ytfefpbnhpncmlaa.CatU Go.Proofs.Ytfefpbnhpncmlaa.CatK Go.Proofs.Ytfefpbnhpncmlaa.CatS Go.Proofs.Ytfefpbnhpncmlaa.CatY Go.Proofs.Ytfefpbnhpncmlaa.RefG Go.Proofs.Ytfefpbnhpncmlaa.PtrB Go.Proofs.Ytfefpbnhpncmlaa.PtrG Go.Proofs.Ytfefpbnhpncmlaa.Agg Go.Proofs.Ytfefpbnhpncmlaa.B8 Go.Proofs.Ytfefpbnhpncmlaa.CodL Go.Proofs.Ytfefpbnhpncmlaa.CodA Go.Proofs.Ytfefpbnhpncmlaa.CodB Go.Proofs.Ytfefpbnhpncmlaa.CatL Go.Proofs.Ytfefpbnhpncmlaa.PtrA Go.Proofs.Ytfefpbnhpncmlaa.PtrE Go.Proofs.Ytfefpbnhpncmlaa.PtrF Go.Proofs.Ytfefpbnhpncmlaa.PBaseSigns Go.Proofs.YtfefpbnhpncmlaaW.PrintWords Go.Proofs.YtfefpbnhpncmlaaW.PrintLast Go.Proofs.YtfefpbnhpncmlaaW.PrintMore Go.Proofs.Ytfefpbnhpncmlaa.EntG Go.Proofs.Ytfefpbnhpncmlaa.StmA Go.Proofs.Ytfefpbnhpncmlaa.StmB Go.Proofs.Ytfefpbnhpncmlaa.StmC Go.Proofs.Ytfefpbnhpncmlaa.CrcC Go.Proofs.Ytfefpbnhpncmlaa.StmD Go.Proofs.Ytfefpbnhpncmlaa.StmE Go.Proofs.Ytfefpbnhpncmlaa.CrcL Go.Proofs.Ytfefpbnhpncmlaa.StmL Go.Proofs.Ytfefpbnhpncmlaa.StmF Go.Proofs.Ytfefpbnhpncmlaa.StmG Go.Proofs.Ytfefpbnhpncmlaa.StmH Go.Proofs.Ytfefpbnhpncmlaa.StmI Go.Proofs.Ytfefpbnhpncmlaa.StmJ Go.Proofs.Ytfefpbnhpncmlaa.StmK Go.Proofs.Ytfefpbnhpncmlaa.StmM Go.Proofs.Ytfefpbnhpncmlaa.StmN Go.Proofs.Ytfefpbnhpncmlaa.StmO Go.Proofs.Ytfefpbnhpncmlaa.StmP Go.Proofs.Ytfefpbnhpncmlaa.StmR Go.Proofs.Ytfefpbnhpncmlaa.CrcM
set_option linter.unusedVariables false
set_option linter.unusedSimpArgs false

def TellsRB (B w : World) (l : List Int) (e : Ending) (w' : World) : Prop :=
  ∃ A2 c2, e = .returned (.tuple #[.string (rtextF l).1, .slice A2 (rtextF l).2.length c2]) ∧ C8 B A2 (rtextF l).2.length (rtextF l).2 ∧ (rtextF l).2.length ≤ c2 ∧ Below w.heap.size w w'
set_option maxRecDepth 100000 in
theorem rtextB_calls (B : World) (A : Option Addr) (c n : Nat) (l : List Int) (hn : n = l.length) (w : World) (hr : C8 B A n l) (hBw : Below B.heap.size B w) (hb : Byt l) (hc : n ≤ c) (hm : n ≤ 1000000) :
    Calls Try.prog 101 #[.slice A n c] w (TellsRB B w l) := by
  obtain ⟨P, hP⟩ : ∃ P : Ending → World → Prop, P = TellsRB B w l := ⟨_, rfl⟩
  rw [← hP]
  subst hn
  have HC := Aside0.mk (And.intro (Kd.C_below hr hBw) (And.intro hb hc))
  obtain ⟨s, hs⟩ : ∃ s, s = (readText l 65536).1 := ⟨_, rfl⟩
  obtain ⟨u, hu1⟩ : ∃ u, u = (readText l 65536).2.1 := ⟨_, rfl⟩
  obtain ⟨er, her⟩ : ∃ er, er = (readText l 65536).2.2 := ⟨_, rfl⟩
  have hu := readText_used l 65536
  have HX := Aside0.mk (And.intro hs (And.intro hu1 her))
  rw [← hu1] at hu
  have hcut := cut8_from A l.length c u hu
  have HD := C8_drop hr hc hu
  generalize (if c = u then A else A.map (·.add u)) = A2 at hcut HD
  have HB := Aside0.mk (And.intro (fun h : er ≠ 0 => show P (.returned (.tuple #[.string ⟨#[]⟩, .slice none 0 0])) w from by
    have e : rtextF l = (emp, []) := by unfold rtextF; rw [if_pos (by rw [← her]; exact h)]
    rw [hP]
    refine ⟨none, 0, by rw [e]; rfl, by rw [e]; exact Kd.C_nil _ _, by rw [e]; exact Nat.le_refl _, Below.refl _ _⟩)
    (fun (h : er = 0) (w' : World) (hw : Below w.heap.size w w') => show P (.returned (.tuple #[.string s, .slice A2 (l.length - u) (c - u)])) w' from by
    have e : rtextF l = (s, l.drop u) := by unfold rtextF; rw [if_neg (by rw [← her]; simp [h]), hs, hu1]
    rw [hP]
    refine ⟨A2, c - u, by rw [e, List.length_drop], by rw [e, List.length_drop]; exact HD, by rw [e, List.length_drop]; omega, hw⟩))
  clear hP hr hb hc hs hu1 her HD hBw
  go_enter Try.func101, Try.ntmps101
  go_wp2_with fail
  refine (rreadText_65536 A c l.length l rfl w HC.out.1 HC.out.2.1 HC.out.2.2 hm).mono ?_
  rintro e w1 ⟨rfl, rfl⟩
  rw [← HX.out.1, ← HX.out.2.1, ← HX.out.2.2]
  by_cases he : er = 0
  · have HE := Aside0.mk (HB.out.2 he)
    subst he
    clear HB
    go_wp2
    refine wp_region_held_drew (S := fun w' => Below w.heap.size w w') (by kernel_rfl) (below_drew (Below.refl _ _)) (fun hW => ?_)
    refine wpAnyH_take (i := 0) (oi := ⟨some 15, _, _, _, _, _⟩) (v := .string s) rfl (by kernel_rfl) (by kernel_rfl) (by kernel_rfl) (fun _ _ _ h => h) (.inl ⟨by rfl, fun W1 h1 => by go_simp⟩) hW ?_
    try simp only [Act.put, List.setIfInBounds_toArray, List.set_cons_zero, List.set_cons_succ]
    refine wpAnyH_take (i := 1) (oi := ⟨some 16, _, _, _, _, _⟩) (v := .slice A l.length c) rfl (by kernel_rfl) (by kernel_rfl) (by kernel_rfl) (fun _ _ _ h => h) (.inl ⟨by rfl, fun W1 h1 => by go_simp⟩) hW ?_
    try simp only [Act.put, List.setIfInBounds_toArray, List.set_cons_zero, List.set_cons_succ]
    refine wpAnyH_take (i := 2) (oi := ⟨some 17, _, _, _, _, _⟩) (v := .int .i64 (u : Int)) rfl (by kernel_rfl) (by kernel_rfl) (by kernel_rfl) (fun _ _ _ h => h) (.inl ⟨by rfl, fun W1 h1 => by go_simp⟩) hW ?_
    try simp only [Act.put, List.setIfInBounds_toArray, List.set_cons_zero, List.set_cons_succ]
    refine wpAnyH_take (i := 3) (oi := ⟨some 18, _, _, _, _, _⟩) (v := .slice A2 (l.length - u) (c - u)) rfl (by kernel_rfl) (by kernel_rfl) (by kernel_rfl) (fun _ _ _ h => h) (.inl ⟨by rfl, fun W1 h1 => by go_simp⟩) hW ?_
    try simp only [Act.put, List.setIfInBounds_toArray, List.set_cons_zero, List.set_cons_succ]
    refine wpAnyH_take (i := 4) (oi := ⟨some 2, _, _, _, _, _⟩) (v := .string s) rfl (by kernel_rfl) (by kernel_rfl) (by kernel_rfl) (fun _ _ _ h => h) (.inl ⟨by rfl, fun W1 h1 => by go_simp⟩) hW ?_
    try simp only [Act.put, List.setIfInBounds_toArray, List.set_cons_zero, List.set_cons_succ]
    refine wpAnyH_take (i := 5) (oi := ⟨some 3, _, _, _, _, _⟩) (v := .slice A2 (l.length - u) (c - u)) rfl (by kernel_rfl) (by kernel_rfl) (by kernel_rfl) (fun _ _ _ h => h) (.inl ⟨by rfl, fun W1 h1 => by go_simp⟩) hW ?_
    try simp only [Act.put, List.setIfInBounds_toArray, List.set_cons_zero, List.set_cons_succ]
    refine wpAnyH_done (by kernel_rfl) ?_ _
    have HF := Aside0.mk (HE.out _ hW)
    clear hW HE
    go_wp2
    exact HF.out
  · have HE := Aside0.mk (HB.out.1 he)
    have hbe : (er == 0) = false := by simp [he]
    have hbe2 : (er != 0) = true := by simp [he]
    clear he HB
    go_wp2
    exact HE.out

abbrev Z86 : Array Value := #[.string ⟨#[]⟩, .string ⟨#[]⟩, .slice none 0 0]
/-- What reading tells: a stream of these bytes, or what is wrong. -/
def TellsReadS (w : World) (cell : World → Value → List Chg → Prop) (L : List Int) (zero : Value) (r : Ending) (w' : World) : Prop :=
  Below w.heap.size w w' ∧
  ((L.length < 8 ∧ r = .returned (.tuple #[zero, .int .i64 10])) ∨
   (8 ≤ L.length ∧ ¬ OkSum L ∧ r = .returned (.tuple #[zero, .int .i64 12])) ∨
   (8 ≤ L.length ∧ OkSum L ∧ NoS L ∧ r = .returned (.tuple #[zero, .int .i64 11])) ∨
   (∃ x v, RightS x ∧ stmL x = L ∧ r = .returned (.tuple #[.agg #[.string x.base, .string x.snap, v], .int .i64 0]) ∧ cell w' v x.l))
def cellF (w : World) (w' : World) (v : Value) (l : List Chg) : Prop := Kd.R kC 140 w' w.heap.size (fun _ => True) v l
/-- Where the document's reading stands. -/
structure IS (w : World) (gv g2 : Nat) (A : Option Addr) (n c : Nat) (l : List Int) (xb xs : ByteArray) (vL : Value) (cs : List Chg) (W : World) : Prop where
  below : Below w.heap.size w W
  rest : C8 w A n l
  hn : n = l.length
  hc : n ≤ c
  byt : Byt l
  len : n ≤ 100000
  he : W.heap[gv]? = some (.cells #[.string xb, .string xs, vL] 86 (0, 0))
  h2 : W.heap[g2]? = some (.cells Z86 86 (0, 0))
  gle : w.heap.size ≤ gv
  g2le : w.heap.size ≤ g2
  ne : g2 ≠ gv
  row : Kd.R kC 140 W w.heap.size (fun _ => True) vL cs
theorem IS.on {w : World} {gv g2 : Nat} {A : Option Addr} {n c : Nat} {l : List Int} {xb xs : ByteArray} {vL : Value} {cs : List Chg} {W W1 : World} (h : IS w gv g2 A n c l xb xs vL cs W) (hb : Below W.heap.size W W1) : IS w gv g2 A n c l xb xs vL cs W1 :=
  ⟨below_then h.below h.below.size hb, h.rest, h.hn, h.hc, h.byt, h.len, blk_below h.he hb, blk_below h.h2 hb, h.gle, h.g2le, h.ne, Kd.R_below h.row hb⟩
theorem IS.go {w : World} {gv g2 : Nat} {A A' : Option Addr} {n c n' c' : Nat} {l l' : List Int} {xb xs : ByteArray} {vL : Value} {cs : List Chg} {W : World} (h : IS w gv g2 A n c l xb xs vL cs W) (h1 : C8 w A' n' l') (h2 : n' = l'.length) (h3 : n' ≤ c') (h4 : Byt l') (h5 : l'.length ≤ l.length) : IS w gv g2 A' n' c' l' xb xs vL cs W :=
  ⟨h.below, h1, h2, h3, h4, by have := h.hn; have := h.len; omega, h.he, h.h2, h.gle, h.g2le, h.ne, h.row⟩
/-- A store into the stream's first two cells. -/
theorem IS.set {w : World} {gv g2 : Nat} {A : Option Addr} {n c : Nat} {l : List Int} {xb xs xb' xs' : ByteArray} {vL : Value} {cs : List Chg} {W : World} (h : IS w gv g2 A n c l xb xs vL cs W) (i : Nat) (v : Value) (hs : (#[.string xb, .string xs, vL] : Array Value).setIfInBounds i v = #[.string xb', .string xs', vL]) : IS w gv g2 A n c l xb' xs' vL cs (W.setCell ⟨gv, i, none⟩ v) := by
  refine ⟨h.below.setCell h.gle _, h.rest, h.hn, h.hc, h.byt, h.len, ?_, blk_far h.h2 (by simp; exact h.ne) _, h.gle, h.g2le, h.ne, ?_⟩
  · rw [heap_setCell_same _ _ _ _ _ _ h.he, hs]
  · exact Kd.R_mono (Kd.R_set h.row h.he (by intro q hq; simp [kC, kF] at hq; omega) _ _) (fun _ _ => trivial)
/-- A store into a block of the loop's own. -/
theorem IS.other {w : World} {gv g2 : Nat} {A : Option Addr} {n c : Nat} {l : List Int} {xb xs : ByteArray} {vL : Value} {cs : List Chg} {W : World} (h : IS w gv g2 A n c l xb xs vL cs W) (g i : Nat) (v : Value) (hg : w.heap.size ≤ g) (h1 : g ≠ gv) (h2 : g ≠ g2) (h3 : Kd.R kC 140 W w.heap.size (fun k => k ≠ g) vL cs) : IS w gv g2 A n c l xb xs vL cs (W.setCell ⟨g, i, none⟩ v) :=
  ⟨h.below.setCell hg _, h.rest, h.hn, h.hc, h.byt, h.len, blk_far h.he (by simp; omega) _, blk_far h.h2 (by simp; omega) _, h.gle, h.g2le, h.ne, Kd.R_mono (Kd.R_far h3 (fun k hk => hk) v) (fun _ _ => trivial)⟩
/-- The row is another one. -/
theorem IS.push {w : World} {gv g2 : Nat} {A : Option Addr} {n c : Nat} {l : List Int} {xb xs : ByteArray} {vL v1 : Value} {cs cs1 : List Chg} {W w1 : World} (h : IS w gv g2 A n c l xb xs vL cs W) (h1 : Kd.R kC 140 w1 w.heap.size (fun _ => True) v1 cs1) (h2 : Below w.heap.size w w1) (h3 : W.grownBy w1 vL.ownBlock) :
    IS w gv g2 A n c l xb xs v1 cs1 (w1.setCell ⟨gv, 2, none⟩ v1) := by
  have e1 := blk_grown h.he h3 (Kd.R_ne h.row h.he (by decide))
  have e2 := blk_grown h.h2 h3 (Kd.R_ne h.row h.h2 (by decide))
  refine ⟨h2.setCell h.gle _, h.rest, h.hn, h.hc, h.byt, h.len, ?_, blk_far e2 (by simp; exact h.ne) _, h.gle, h.g2le, h.ne, ?_⟩
  · rw [heap_setCell_same _ _ _ _ _ _ e1]; rfl
  · exact Kd.R_mono (Kd.R_set h1 e1 (by intro q hq; simp [kC, kF] at hq; omega) _ _) (fun _ _ => trivial)
section
variable {ops : Array Oper} {o : Oper} {rest : List Oper} {a : Act} {Q : Exit → Act → World → Prop}
theorem list_one_C {w : World} (hgd : o.guard = none) (x : Operand) (ho : o.op = .buildSlice 83 1 #[(0, x)]) (p : Chg) (hx : a.eval x = .agg (encC p))
    (h : wpList Try.prog ops Q rest (a.put o.dst (.slice (some ⟨w.heap.size, 0, none⟩) 1 1)) (w.alloc (.cells (encC p) 140))) : wpList Try.prog ops Q (o :: rest) a w :=
  wpList_plain hgd fun K hK => wp_one_C x ho p hx (hK _ _ h)
theorem list_append_C {w0 W : World} (base : Nat) (hgd : o.guard = none) (s x : Operand) (ho : o.op = .call { callee := .builtin .append, args := #[s, x], argTypes := #[83, 83] })
    (v : Value) (xs : List Chg) (p : Chg) (hs : a.eval s = v) (hx : a.eval x = .slice (some ⟨W.heap.size, 0, none⟩) 1 1)
    (HO : Kd.R kC 140 W base (fun _ => True) v xs) (HB : Below base w0 W) (hbase : base ≤ W.heap.size) (hl : xs.length ≤ 100000)
    (h : ∀ v1 w1, Kd.R kC 140 w1 base (fun _ => True) v1 (xs ++ [p]) → Below base w0 w1 → W.grownBy w1 v.ownBlock → wpList Try.prog ops Q rest (a.put o.dst v1) w1) :
    wpList Try.prog ops Q (o :: rest) a (W.alloc (.cells (encC p) 140)) :=
  wpList_plain hgd fun K hK => wp_append_C base s x ho v xs p hs hx HO HB hbase hl (fun v1 w1 h1 h2 h3 => hK _ _ (h v1 w1 h1 h2 h3))
end
end Go.Proofs.Ytfefpbnhpncmlaa.StmS
namespace Go.Proofs.Ytfefpbnhpncmlaa.StmT
open Go.RowKit Go.Proofs.Ytfefpbnhpncmlaa.EntL Go.Proofs.Ytfefpbnhpncmlaa.EntB Go.Proofs.Ytfefpbnhpncmlaa.EntC Go.Proofs.Ytfefpbnhpncmlaa.EntD Go.Proofs.Ytfefpbnhpncmlaa.EntE Go.Proofs.Ytfefpbnhpncmlaa.EntF Go.Proofs.Ytfefpbnhpncmlaa.CatR Go.Proofs.Ytfefpbnhpncmlaa.CatT Go.Proofs.Ytfefpbnhpncmlaa.CatU Go.Proofs.Ytfefpbnhpncmlaa.CatK Go.Proofs.Ytfefpbnhpncmlaa.CatS Go.Proofs.Ytfefpbnhpncmlaa.CatY Go.Proofs.Ytfefpbnhpncmlaa.RefG Go.Proofs.Ytfefpbnhpncmlaa.PtrB Go.Proofs.Ytfefpbnhpncmlaa.PtrG Go.Proofs.Ytfefpbnhpncmlaa.Agg Go.Proofs.Ytfefpbnhpncmlaa.B8 Go.Proofs.Ytfefpbnhpncmlaa.CodL Go.Proofs.Ytfefpbnhpncmlaa.CodA Go.Proofs.Ytfefpbnhpncmlaa.CodB Go.Proofs.Ytfefpbnhpncmlaa.CatL Go.Proofs.Ytfefpbnhpncmlaa.PtrA Go.Proofs.Ytfefpbnhpncmlaa.PtrE Go.Proofs.Ytfefpbnhpncmlaa.PtrF Go.Proofs.Ytfefpbnhpncmlaa.PBaseSigns Go.Proofs.YtfefpbnhpncmlaaW.PrintWords Go.Proofs.YtfefpbnhpncmlaaW.PrintLast Go.Proofs.YtfefpbnhpncmlaaW.PrintMore Go.Proofs.Ytfefpbnhpncmlaa.EntG Go.Proofs.Ytfefpbnhpncmlaa.StmA Go.Proofs.Ytfefpbnhpncmlaa.StmB Go.Proofs.Ytfefpbnhpncmlaa.StmC Go.Proofs.Ytfefpbnhpncmlaa.CrcC Go.Proofs.Ytfefpbnhpncmlaa.StmD Go.Proofs.Ytfefpbnhpncmlaa.StmE Go.Proofs.Ytfefpbnhpncmlaa.CrcL Go.Proofs.Ytfefpbnhpncmlaa.StmL Go.Proofs.Ytfefpbnhpncmlaa.StmF Go.Proofs.Ytfefpbnhpncmlaa.StmG Go.Proofs.Ytfefpbnhpncmlaa.StmH Go.Proofs.Ytfefpbnhpncmlaa.StmI Go.Proofs.Ytfefpbnhpncmlaa.StmJ Go.Proofs.Ytfefpbnhpncmlaa.StmK Go.Proofs.Ytfefpbnhpncmlaa.StmM Go.Proofs.Ytfefpbnhpncmlaa.StmN Go.Proofs.Ytfefpbnhpncmlaa.StmO Go.Proofs.Ytfefpbnhpncmlaa.StmP Go.Proofs.Ytfefpbnhpncmlaa.StmR Go.Proofs.Ytfefpbnhpncmlaa.CrcM Go.Proofs.Ytfefpbnhpncmlaa.StmS
set_option linter.unusedVariables false
set_option linter.unusedSimpArgs false

theorem rtextF_byt {l : List Int} (h : Byt l) : Byt (rtextF l).2 := by
  unfold rtextF
  split
  · intro x hx; simp at hx
  · exact h.drop _
/-- Where a round stands: a change is built in a block of its own. -/
structure IC (w : World) (gv g2 : Nat) (A : Option Addr) (n c : Nat) (l : List Int) (xb xs : ByteArray) (vL : Value) (cs : List Chg) (gc : Nat) (y : Chg) (W : World) : Prop where
  is : IS w gv g2 A n c l xb xs vL cs W
  blk : W.heap[gc]? = some (.cells (encC y) 140 (0, 0))
  row : Kd.R kC 140 W w.heap.size (fun k => k ≠ gc) vL cs
  g : w.heap.size ≤ gc
  n1 : gc ≠ gv
  n2 : gc ≠ g2
theorem IC.on {w : World} {gv g2 : Nat} {A : Option Addr} {n c : Nat} {l : List Int} {xb xs : ByteArray} {vL : Value} {cs : List Chg} {gc : Nat} {y : Chg} {W W1 : World} (h : IC w gv g2 A n c l xb xs vL cs gc y W) (hb : Below W.heap.size W W1) : IC w gv g2 A n c l xb xs vL cs gc y W1 :=
  ⟨h.is.on hb, blk_below h.blk hb, Kd.R_below h.row hb, h.g, h.n1, h.n2⟩
theorem IC.go {w : World} {gv g2 : Nat} {A A' : Option Addr} {n c n' c' : Nat} {l l' : List Int} {xb xs : ByteArray} {vL : Value} {cs : List Chg} {gc : Nat} {y : Chg} {W : World} (h : IC w gv g2 A n c l xb xs vL cs gc y W) (h1 : C8 w A' n' l') (h2 : n' = l'.length) (h3 : n' ≤ c') (h4 : Byt l') (h5 : l'.length ≤ l.length) : IC w gv g2 A' n' c' l' xb xs vL cs gc y W :=
  ⟨h.is.go h1 h2 h3 h4 h5, h.blk, h.row, h.g, h.n1, h.n2⟩
theorem IC.set {w : World} {gv g2 : Nat} {A : Option Addr} {n c : Nat} {l : List Int} {xb xs : ByteArray} {vL : Value} {cs : List Chg} {gc : Nat} {y : Chg} {W : World} (h : IC w gv g2 A n c l xb xs vL cs gc y W) (i : Nat) (v : Value) (y' : Chg) (hs : (encC y).setIfInBounds i v = encC y') : IC w gv g2 A n c l xb xs vL cs gc y' (W.setCell ⟨gc, i, none⟩ v) :=
  ⟨h.is.other gc i v h.g h.n1 h.n2 h.row, by rw [heap_setCell_same _ _ _ _ _ _ h.blk, hs], Kd.R_far h.row (fun k hk => hk) v, h.g, h.n1, h.n2⟩
theorem i140 (y : Chg) : (Try.prog.info? 140).map (·.size) = some (encC y).size := by
  rw [show (encC y).size = 4 from rfl]; kernel_rfl
theorem R_setRow {w : World} {v : Value} {cs : List Chg} {base g : Nat} {a b : Array Value} (h : Kd.R kC 140 w base (fun _ => True) v cs) (hg : w.heap[g]? = some (.cells a 86 (0, 0))) : Kd.R kC 140 (w.setRow g b) base (fun _ => True) v cs :=
  Kd.R_mono (Kd.R_step (Kd.R_types h hg (by intro q hq; simp [kC, kF] at hq; omega)) (fun k hk _ => setRow_other _ _ _ _ hk.2)) (fun _ _ => trivial)
theorem chgF_gone {l : List Int} (h : (rtextF l).2.getD 0 0 = 1) : chgF l = (⟨(rtextF l).1, emp, emp, true⟩, (rtextF l).2.drop 1) := by
  unfold chgF
  simp only [h, decide_true, if_true]
theorem chgF_live {l : List Int} (h : (rtextF l).2.getD 0 0 ≠ 1) : chgF l = (⟨(rtextF l).1, (rtextF ((rtextF l).2.drop 1)).1, (rtextF (rtextF ((rtextF l).2.drop 1)).2).1, false⟩, (rtextF (rtextF ((rtextF l).2.drop 1)).2).2) := by
  unfold chgF
  simp only [decide_eq_false h, Bool.false_eq_true, if_false]
theorem a86 (a b : ByteArray) (A : Option Addr) (n c : Nat) : (#[.string a, .string b, .slice A n c] : Array Value).all (·.oneCell') = true := by simp [Value.oneCell']
theorem a86Z : Z86.all (·.oneCell') = true := by simp [Value.oneCell']
set_option maxRecDepth 100000 in
set_option maxHeartbeats 1000000 in
theorem rreadS_calls (A : Option Addr) (c n : Nat) (L : List Int) (hn : n = L.length) (w : World) (hr : C8 w A n L) (hb : Byt L) (hc : n ≤ c) (hm : n ≤ 9000) :
    Calls Try.prog 50 #[.slice A n c] w (TellsReadS w (cellF w) L (.agg Z86)) := by
  have HC := Aside0.mk (And.intro hr (And.intro hb hc))
  have HN := Aside0.mk hn
  have B0 := Aside0.mk (below_alloc (Below.refl w.heap.size w) (.cells Z86 86))
  have G0 := Aside0.mk (blk_new w (.cells Z86 86))
  obtain ⟨P, hP⟩ : ∃ P : Ending → World → Prop, P = TellsReadS w (cellF w) L (.agg Z86) := ⟨_, rfl⟩
  rw [← hP]
  have HP := Aside0.mk hP
  clear hP hr hb hn
  go_enter Try.func50, Try.ntmps50
  by_cases h8 : n < 8
  · have d8 : decide ((n : Int) < 8) = true := decide_eq_true (by omega)
    go_wp2_with (refine wpList_store_same rfl 86 (.tmp 2) (.tmp 19) rfl w.heap.size Z86 rfl rfl 86 G0.out (i86 _ _ _) a86Z ?_)
    refine bodyPost_ret (res_ct (p := 2) (q := 3) _ rfl rfl G0.out StmO.u86 rfl (i86 _ _ _)) rfl ?_
    rw [HP.out]
    exact ⟨B0.out, .inl ⟨by rw [← HN.out]; exact h8, rfl⟩⟩
  · have d8 : decide ((n : Int) < 8) = false := decide_eq_false (by omega)
    obtain ⟨k, hk⟩ : ∃ k, n = k + 4 := ⟨n - 4, by omega⟩
    have ek : ((n : Int) - 4) = (k : Int) := by omega
    have hk4 : 4 ≤ k := by omega
    have cutA := cut8_to A n c k (by omega) hc
    have cutB := cut8_from A n c k (by omega)
    have e4 : (L.drop k).length = 4 := by rw [List.length_drop]; have := HN.out; omega
    have hck : ¬ c = k := by omega
    have CD := Aside0.mk (show C8 w (Option.map (fun x => x.add k) A) 4 (L.drop k) by
      have := C8_drop HC.out.1 hc (j := k) (by omega)
      rw [if_neg hck, show n - k = 4 by omega] at this
      exact this)
    have CT := Aside0.mk (show C8 w A k (L.take k) from C_take HC.out.1 (by omega))
    have hbD := HC.out.2.1.drop k
    have hbT := HC.out.2.1.take k
    have etk : (L.take k).length = k := by rw [List.length_take]; have := HN.out; omega
    have hlb := leL_bound hbD
    rw [e4] at hlb
    have hsl := sumN_lt (L.take k)
    have HOK : Aside0 (OkSum L ↔ leL (L.drop k) = (sumN (L.take k) : Int)) := ⟨by
      unfold OkSum
      rw [show L.length - 4 = k by have := HN.out; omega]⟩
    have cutC : ∀ W, (Instr.slice 31 (.slice A k c) (some (.int .i64 4)) none none).run Try.prog W = .ok (.slice (if c = 4 then A else A.map (·.add 4)) (k - 4) (c - 4)) W := fun W => cut8_from A k c 4 hk4 W
    have CR0 := Aside0.mk (C8_drop CT.out (by omega) hk4 (c := c))
    have ER0 := Aside0.mk (show (L.take k).drop 4 = rest0 L by rw [rest0, show L.length - 4 = k by have := HN.out; omega])
    rw [ER0.out] at CR0
    generalize (if c = 4 then A else A.map (·.add 4)) = A0 at cutC CR0
    have HB0 := Aside0.mk (And.intro hbD (And.intro hbT (And.intro e4 etk)))
    clear hbD hbT
    go_wp2_with fail
    generalize hW0 : w.alloc (.cells Z86 86) = W0 at *
    have hs0 : W0.heap.size = w.heap.size + 1 := by rw [← hW0]; simp
    clear hW0
    have T := RefC.rtake_calls (A.map (fun x => x.add k)) (c - k) (L.drop k) 4 W0 (by rw [e4]; exact Kd.C_below CD.out B0.out) HB0.out.1 (by omega) (by omega) (by decide) (by decide) (by omega)
    rw [show (L.drop k).take 4 = L.drop k from List.take_of_length_le (by omega), e4] at T
    refine T.mono ?_
    rintro e w1 ⟨v1, rfl, hr1, hb1⟩
    have B1 := Aside0.mk (below_then B0.out B0.out.size hb1)
    have G1 := Aside0.mk (blk_below G0.out hb1)
    have hs1 : w.heap.size < w1.heap.size := by have := hb1.size; omega
    have hbT := HB0.out.2.1
    have wr32 : IntKind.u32.wrap (leL (L.drop k)) = leL (L.drop k) := by rw [IntKind.wrap_u32]; omega
    clear T hr1 hb1 G0 B0 hs0
    go_wp2_with fail
    refine (CrcB.rgo_calls A c k (L.take k) etk.symm w1 (Kd.C_below CT.out B1.out) HB0.out.2.1).mono ?_
    rintro e w2 ⟨rfl, rfl⟩
    by_cases hok : leL (L.drop k) = (sumN (L.take k) : Int)
    case neg =>
      have hne : (leL (L.drop k) != (sumN (L.take k) : Int)) = true := by simp [hok]
      have hne2 : (leL (L.drop k) == (sumN (L.take k) : Int)) = false := by simp [hok]
      have HOK2 := Aside0.mk (fun h => hok (HOK.out.1 h))
      clear hok HOK
      go_wp2_with (refine wpList_store_same rfl 86 (.tmp 2) (.tmp 40) rfl w.heap.size Z86 rfl rfl 86 G1.out (i86 _ _ _) a86Z ?_)
      refine bodyPost_ret (res_ct (p := 2) (q := 3) _ rfl rfl G1.out StmO.u86 rfl (i86 _ _ _)) rfl ?_
      rw [HP.out]
      exact ⟨B1.out, .inr (.inl ⟨by rw [← HN.out]; omega, HOK2.out, rfl⟩)⟩
    case pos =>
      have hne : (leL (L.drop k) != (sumN (L.take k) : Int)) = false := by simp [hok]
      have hne2 : (leL (L.drop k) == (sumN (L.take k) : Int)) = true := by simp [hok]
      have HOK2 := Aside0.mk (HOK.out.2 hok)
      clear hok HOK
      have hl0 : (rest0 L).length = k - 4 := by rw [rest0_len]; have := HN.out; omega
      have HBR := Aside0.mk (show Byt (rest0 L) by rw [← ER0.out]; exact HB0.out.2.1.drop 4)
      have H0 := Aside0.mk (⟨B1.out.alloc B1.out.size _, CR0.out, hl0.symm, by omega, HBR.out, by omega, blk_new w2 (.cells Z86 86), blk_alloc G1.out _, by omega, Nat.le_refl _, by omega, Kd.R_nil _ _ _ _ _⟩ : IS w w2.heap.size w.heap.size A0 (k - 4) (c - 4) (rest0 L) ⟨#[]⟩ ⟨#[]⟩ (.slice none 0 0) [] (w2.alloc (.cells Z86 86)))
      clear CR0 ER0 CT CD HB0 HBR
      go_wp2_with fail
      generalize hgv : w2.heap.size = gv at *
      have HGV := Aside0.mk hgv
      generalize hWv : w2.alloc (.cells Z86 86) = Wv at *
      clear hgv hWv cutC cutA cutB
      have GLE := Aside0.mk H0.out.below.size
      refine (rtextB_calls w A0 (c - 4) (k - 4) (rest0 L) H0.out.hn Wv H0.out.rest H0.out.below H0.out.byt H0.out.hc (by have := H0.out.len; omega)).mono ?_
      rintro e w3 ⟨A1, c1, rfl, hr1, hc1, hb1⟩
      have hwt1 := (rtextF_wt (rest0 L)).1
      have H1 := Aside0.mk ((H0.out.on hb1).go hr1 rfl hc1 (rtextF_byt H0.out.byt) (by omega))
      clear hr1 hc1 hb1 H0
      have HD1 := Aside0.mk (show headF L = ((rtextF (rest0 L)).1, (rtextF (rtextF (rest0 L)).2).1, (rtextF (rtextF (rest0 L)).2).2) from rfl)
      generalize (rtextF (rest0 L)).1 = xb at *
      generalize (rtextF (rest0 L)).2 = l1 at *
      have xc : w3.cell? ⟨gv, 0, none⟩ = some (.string ⟨#[]⟩) := by rw [cell_of_row _ _ 0 _ 86 (0, 0) H1.out.he]; rfl
      have fc := frozen_of_row w3 gv 0 _ 86 H1.out.he
      have H1' := Aside0.mk (H1.out.set 0 (.string xb) (xb' := xb) (xs' := ⟨#[]⟩) rfl)
      clear H1
      go_wp2_with fail
      clear xc fc
      generalize hWw : w3.setCell ⟨gv, 0, none⟩ (.string xb) = w3b at *
      clear hWw
      refine (rtextB_calls w A1 c1 _ l1 H1'.out.hn w3b H1'.out.rest H1'.out.below H1'.out.byt H1'.out.hc (by have := H1'.out.len; omega)).mono ?_
      rintro e w4 ⟨A2, c2, rfl, hr2, hc2, hb2⟩
      have hwt2 := (rtextF_wt l1).1
      have H2 := Aside0.mk ((H1'.out.on hb2).go hr2 rfl hc2 (rtextF_byt H1'.out.byt) (by omega))
      clear hr2 hc2 hb2 H1'
      generalize (rtextF l1).1 = xs at *
      generalize (rtextF l1).2 = l2 at *
      have xc : w4.cell? ⟨gv, 1, none⟩ = some (.string ⟨#[]⟩) := by rw [cell_of_row _ _ 1 _ 86 (0, 0) H2.out.he]; rfl
      have fc := frozen_of_row w4 gv 1 _ 86 H2.out.he
      have H2' := Aside0.mk (H2.out.set 1 (.string xs) (xb' := xb) (xs' := xs) rfl)
      clear H2
      go_wp2_with fail
      clear xc fc
      generalize hWw : w4.setCell ⟨gv, 1, none⟩ (.string xs) = w4b at *
      clear hWw
      refine (RefI.rreadShort_calls A2 c2 l2 w4b (Kd.C_below H2'.out.rest H2'.out.below) H2'.out.byt H2'.out.hc (by have := H2'.out.len; have := H2'.out.hn; omega)).mono ?_
      rintro e w5 ⟨rfl, rfl⟩
      have hused := readShort_used l2
      have hbd := readShort_bound H2'.out.byt
      have HBAD : Aside0 (badN l2 65536 = true → NoS L) := ⟨fun h => headF_num (L := L) (by rw [HD1.out]; exact h)⟩
      have HST := Aside0.mk (invF_start (L := L))
      rw [HD1.out] at HST
      simp only at HST
      have cutU := cut8_from A2 l2.length c2 (readShort l2).2.1 hused
      have CU := Aside0.mk (C8_drop H2'.out.rest H2'.out.hc hused)
      have HUB := Aside0.mk (H2'.out.byt.drop (readShort l2).2.1)
      have HBN : Aside0 (badN l2 65536 = decide ((readShort l2).2.2 ≠ 0 ∨ (65536 : Int) < (readShort l2).1)) := ⟨rfl⟩
      generalize (if c2 = (readShort l2).2.1 then A2 else A2.map (·.add (readShort l2).2.1)) = A3 at cutU CU
      generalize (readShort l2).1 = x at *
      generalize (readShort l2).2.1 = u at *
      generalize (readShort l2).2.2 = er at *
      by_cases her : er = 0
      case neg =>
        have hbe : (er == 0) = false := by simp [her]
        have hbe2 : (er != 0) = true := by simp [her]
        have HNO := Aside0.mk (HBAD.out (by rw [HBN.out]; exact decide_eq_true (.inl her)))
        clear her HBN
        go_wp2_with (refine wpList_store_same rfl 86 (.tmp 2) (.tmp 68) rfl w.heap.size Z86 rfl rfl 86 H2'.out.h2 (i86 _ _ _) a86Z ?_)
        refine bodyPost_ret (res_ct (p := 2) (q := 3) _ rfl rfl H2'.out.h2 StmO.u86 rfl (i86 _ _ _)) rfl ?_
        rw [HP.out]
        exact ⟨H2'.out.below, .inr (.inr (.inl ⟨by rw [← HN.out]; omega, HOK2.out, HNO.out, rfl⟩))⟩
      case pos =>
        subst her
        by_cases hx : (65536 : Int) < x
        case pos =>
          have dx : decide ((65536 : Int) < x) = true := decide_eq_true hx
          have HNO := Aside0.mk (HBAD.out (by rw [HBN.out]; exact decide_eq_true (.inr hx)))
          clear HBN
          go_wp2_with (refine wpList_store_same rfl 86 (.tmp 2) (.tmp 68) rfl w.heap.size Z86 rfl rfl 86 H2'.out.h2 (i86 _ _ _) a86Z ?_)
          refine bodyPost_ret (res_ct (p := 2) (q := 3) _ rfl rfl H2'.out.h2 StmO.u86 rfl (i86 _ _ _)) rfl ?_
          rw [HP.out]
          exact ⟨H2'.out.below, .inr (.inr (.inl ⟨by rw [← HN.out]; omega, HOK2.out, HNO.out, rfl⟩))⟩
        case neg =>
          have dx : decide ((65536 : Int) < x) = false := decide_eq_false hx
          clear HBN HBAD
          obtain ⟨N, rfl⟩ : ∃ N : Nat, x = (N : Int) := ⟨x.toNat, by omega⟩
          rw [Int.toNat_natCast] at HST
          have hN : N ≤ 65536 := by omega
          have H3 := Aside0.mk (H2'.out.go (n' := l2.length - u) (c' := c2 - u) CU.out (by rw [List.length_drop]) (by have := H2'.out.hc; omega) HUB.out (by rw [List.length_drop]; omega))
          clear CU HUB H2' hx hbd
          go_wp2
          go_loopw [4, 12] (fun v4 v12 wr => ∃ (j : Nat) (A4 : Option Addr) (n4 c4 : Nat) (l4 : List Int) (vL : Value) (cs : List Chg), v4 = .slice A4 n4 c4 ∧ v12 = .int .i64 (j : Int) ∧ j ≤ N ∧ Aside0 (InvF L xb xs N j cs l4) ∧ Aside0 (IS w gv w.heap.size A4 n4 c4 l4 xb xs vL cs wr)) (fun _ v _ => N - (intOf v).toNat)
          case atStart => exact ⟨0, A3, l2.length - u, c2 - u, l2.drop u, .slice none 0 0, [], rfl, rfl, Nat.zero_le _, HST, H3⟩
          case round =>
            obtain ⟨j, A4, n4, c4, l4, vL, cs, rfl, rfl, hj, HI, H4⟩ := hrel
            clear H3 HST HD1 cutU hused
            have wN : IntKind.i64.wrap (N : Int) = (N : Int) := by rw [IntKind.wrap_i64]; omega
            have key : ¬ j < N ∨ (j < N ∧ n4 = 0) ∨ (j < N ∧ 0 < n4) := by omega
            rcases key with hend | ⟨hlt, hend⟩ | ⟨hlt, h0⟩
            · have HEND := Aside0.mk (invF_end HI.out (.inl (by omega)))
              have dj : decide ((j : Int) < (N : Int)) = false := decide_eq_false (by omega)
              have hcl : cs.length ≤ 9000 ∧ wtL cs ≤ 10000 := by have := HI.out.wt; have := wtL_len cs; have := HN.out; omega
              obtain ⟨AL, cL, rfl, hleL, hCL⟩ := Kd.R_reads H4.out.row
              obtain ⟨X, hX⟩ : ∃ X : Stm, X = ⟨xb, xs, cs⟩ := ⟨_, rfl⟩
              have HX := Aside0.mk hX
              have HPUT := Aside0.mk (show Calls Try.prog 47 #[.agg #[.string xb, .string xs, .slice AL cs.length cL]] wr (TellsPutS wr (.int .i64) X) by
                rw [hX]; exact rput_calls ⟨xb, xs, cs⟩ AL cL cs.length wr hCL hcl.1 (fun _ => hcl.2))
              rw [← hX] at HEND
              clear hleL hCL hX
              have x0 : wr.cell? ⟨gv, 0, none⟩ = some (.string xb) := by rw [cell_of_row _ _ 0 _ 86 (0, 0) H4.out.he]; rfl
              have x1 : wr.cell? ⟨gv, 1, none⟩ = some (.string xs) := by rw [cell_of_row _ _ 1 _ 86 (0, 0) H4.out.he]; rfl
              have x2 : wr.cell? ⟨gv, 2, none⟩ = some (.slice AL cs.length cL) := by rw [cell_of_row _ _ 2 _ 86 (0, 0) H4.out.he]; rfl
              go_wp2_with fail
              clear x0 x1 x2
              refine HPUT.out.mono ?_
              rintro e w7 ⟨v7, rfl, hr7, hb7⟩
              have H7 := Aside0.mk (H4.out.on hb7)
              obtain ⟨A7, c7, rfl, hle7, hC7⟩ := Kd.R_reads hr7
              have s1 := Kd.C_string (P := Try.prog) (c := c7) Try.underlying31 Try.underlying5 Try.underlying9 hC7
              have s2 : (convert 31 9 (.slice A (k + 4) c)).run Try.prog w7 = .ok (.string (strOfNums L)) w7 := by
                rw [← hk]
                exact Kd.C_string (P := Try.prog) Try.underlying31 Try.underlying5 Try.underlying9 (Kd.C_below HC.out.1 H7.out.below)
              clear hr7 hb7 hle7 hC7 H4 HPUT
              cases hrb : StmI.rightB X with
              | false =>
                have HR := Aside0.mk hrb
                rw [show codeS X = 2 by rw [codeS, hrb]; rfl]
                generalize outS X = oX at *
                have HNO := Aside0.mk (show NoS L from fun y hy hL => by
                  have := HEND.out y hy hL
                  rw [this] at hy
                  have h2 := rightB_true hy
                  rw [hrb] at h2
                  cases h2)
                clear hrb s1 s2
                go_wp2_with (refine wpList_store_same rfl 86 (.tmp 2) (.tmp 139) rfl w.heap.size Z86 rfl rfl 86 H7.out.h2 (i86 _ _ _) a86Z ?_)
                refine bodyPost_ret (res_ct (p := 2) (q := 3) _ rfl rfl H7.out.h2 StmO.u86 rfl (i86 _ _ _)) rfl ?_
                rw [HP.out]
                exact ⟨H7.out.below, .inr (.inr (.inl ⟨by rw [← HN.out]; omega, HOK2.out, HNO.out, rfl⟩))⟩
              | true =>
                have HR : Aside0 (RightS X) := ⟨by unfold StmI.rightB at hrb; simpa using hrb⟩
                rw [show codeS X = 0 by rw [codeS, hrb]; rfl]
                have eo : outS X = stmL X := by rw [outS, hrb]; rfl
                rw [eo] at s1 ⊢
                have hS := CatV.str_iff (stmL X) L (stmL_byt X) HC.out.2.1
                clear hrb eo
                generalize hlo : (stmL X).length = lo at *
                generalize strOfNums (stmL X) = S5 at *
                generalize strOfNums L = SL at *
                by_cases heq : stmL X = L
                · rw [decide_eq_true heq] at hS
                  have HEQ := Aside0.mk heq
                  clear heq hlo
                  have x0 : w7.cell? ⟨gv, 0, none⟩ = some (.string xb) := by rw [cell_of_row _ _ 0 _ 86 (0, 0) H7.out.he]; rfl
                  have x1 : w7.cell? ⟨gv, 1, none⟩ = some (.string xs) := by rw [cell_of_row _ _ 1 _ 86 (0, 0) H7.out.he]; rfl
                  have x2 : w7.cell? ⟨gv, 2, none⟩ = some (.slice AL cs.length cL) := by rw [cell_of_row _ _ 2 _ 86 (0, 0) H7.out.he]; rfl
                  go_wp2_with (first | (refine wpList_store_row rfl 86 (.tmp 2) (.tmp 140) rfl w.heap.size #[.string xb, .string xs, .slice AL cs.length cL] rfl rfl 86 Z86 H7.out.h2 (i86 _ _ _) rfl (a86 _ _ _ _ _) ?_) | (refine wpList_load_row rfl 86 (.tmp 8) rfl gv rfl 86 #[.string xb, .string xs, .slice AL cs.length cL] (0, 0) _ H7.out.he StmO.u86 rfl (i86 _ _ _) ?_))
                  refine bodyPost_ret (res_ct (p := 2) (q := 3) _ rfl rfl (setRow_heap _ w.heap.size _ #[.string xb, .string xs, .slice AL cs.length cL] 86 _ H7.out.h2) StmO.u86 rfl (i86 _ _ _)) rfl ?_
                  rw [HP.out]
                  refine ⟨below_setRow H7.out.below (Nat.le_refl _) _, .inr (.inr (.inr ⟨X, .slice AL cs.length cL, HR.out, HEQ.out, by rw [HX.out]; rfl, ?_⟩))⟩
                  rw [HX.out]
                  exact R_setRow H7.out.row H7.out.h2
                · rw [decide_eq_false heq] at hS
                  have HNO := Aside0.mk (show NoS L from fun y hy hL => by
                    have := HEND.out y hy hL
                    rw [this] at hL
                    exact heq hL)
                  clear heq hlo
                  go_wp2_with (refine wpList_store_same rfl 86 (.tmp 2) (.tmp 139) rfl w.heap.size Z86 rfl rfl 86 H7.out.h2 (i86 _ _ _) a86Z ?_)
                  refine bodyPost_ret (res_ct (p := 2) (q := 3) _ rfl rfl H7.out.h2 StmO.u86 rfl (i86 _ _ _)) rfl ?_
                  rw [HP.out]
                  exact ⟨H7.out.below, .inr (.inr (.inl ⟨by rw [← HN.out]; omega, HOK2.out, HNO.out, rfl⟩))⟩
            · have HEND := Aside0.mk (invF_end HI.out (.inr (by have := H4.out.hn; exact List.length_eq_zero_iff.1 (by omega))))
              have dj : decide ((j : Int) < (N : Int)) = true := decide_eq_true (by omega)
              subst hend
              have hcl : cs.length ≤ 9000 ∧ wtL cs ≤ 10000 := by have := HI.out.wt; have := wtL_len cs; have := HN.out; omega
              obtain ⟨AL, cL, rfl, hleL, hCL⟩ := Kd.R_reads H4.out.row
              obtain ⟨X, hX⟩ : ∃ X : Stm, X = ⟨xb, xs, cs⟩ := ⟨_, rfl⟩
              have HX := Aside0.mk hX
              have HPUT := Aside0.mk (show Calls Try.prog 47 #[.agg #[.string xb, .string xs, .slice AL cs.length cL]] wr (TellsPutS wr (.int .i64) X) by
                rw [hX]; exact rput_calls ⟨xb, xs, cs⟩ AL cL cs.length wr hCL hcl.1 (fun _ => hcl.2))
              rw [← hX] at HEND
              clear hleL hCL hX
              have x0 : wr.cell? ⟨gv, 0, none⟩ = some (.string xb) := by rw [cell_of_row _ _ 0 _ 86 (0, 0) H4.out.he]; rfl
              have x1 : wr.cell? ⟨gv, 1, none⟩ = some (.string xs) := by rw [cell_of_row _ _ 1 _ 86 (0, 0) H4.out.he]; rfl
              have x2 : wr.cell? ⟨gv, 2, none⟩ = some (.slice AL cs.length cL) := by rw [cell_of_row _ _ 2 _ 86 (0, 0) H4.out.he]; rfl
              go_wp2_with fail
              clear x0 x1 x2
              refine HPUT.out.mono ?_
              rintro e w7 ⟨v7, rfl, hr7, hb7⟩
              have H7 := Aside0.mk (H4.out.on hb7)
              obtain ⟨A7, c7, rfl, hle7, hC7⟩ := Kd.R_reads hr7
              have s1 := Kd.C_string (P := Try.prog) (c := c7) Try.underlying31 Try.underlying5 Try.underlying9 hC7
              have s2 : (convert 31 9 (.slice A (k + 4) c)).run Try.prog w7 = .ok (.string (strOfNums L)) w7 := by
                rw [← hk]
                exact Kd.C_string (P := Try.prog) Try.underlying31 Try.underlying5 Try.underlying9 (Kd.C_below HC.out.1 H7.out.below)
              clear hr7 hb7 hle7 hC7 H4 HPUT
              cases hrb : StmI.rightB X with
              | false =>
                have HR := Aside0.mk hrb
                rw [show codeS X = 2 by rw [codeS, hrb]; rfl]
                generalize outS X = oX at *
                have HNO := Aside0.mk (show NoS L from fun y hy hL => by
                  have := HEND.out y hy hL
                  rw [this] at hy
                  have h2 := rightB_true hy
                  rw [hrb] at h2
                  cases h2)
                clear hrb s1 s2
                go_wp2_with (refine wpList_store_same rfl 86 (.tmp 2) (.tmp 139) rfl w.heap.size Z86 rfl rfl 86 H7.out.h2 (i86 _ _ _) a86Z ?_)
                refine bodyPost_ret (res_ct (p := 2) (q := 3) _ rfl rfl H7.out.h2 StmO.u86 rfl (i86 _ _ _)) rfl ?_
                rw [HP.out]
                exact ⟨H7.out.below, .inr (.inr (.inl ⟨by rw [← HN.out]; omega, HOK2.out, HNO.out, rfl⟩))⟩
              | true =>
                have HR : Aside0 (RightS X) := ⟨by unfold StmI.rightB at hrb; simpa using hrb⟩
                rw [show codeS X = 0 by rw [codeS, hrb]; rfl]
                have eo : outS X = stmL X := by rw [outS, hrb]; rfl
                rw [eo] at s1 ⊢
                have hS := CatV.str_iff (stmL X) L (stmL_byt X) HC.out.2.1
                clear hrb eo
                generalize hlo : (stmL X).length = lo at *
                generalize strOfNums (stmL X) = S5 at *
                generalize strOfNums L = SL at *
                by_cases heq : stmL X = L
                · rw [decide_eq_true heq] at hS
                  have HEQ := Aside0.mk heq
                  clear heq hlo
                  have x0 : w7.cell? ⟨gv, 0, none⟩ = some (.string xb) := by rw [cell_of_row _ _ 0 _ 86 (0, 0) H7.out.he]; rfl
                  have x1 : w7.cell? ⟨gv, 1, none⟩ = some (.string xs) := by rw [cell_of_row _ _ 1 _ 86 (0, 0) H7.out.he]; rfl
                  have x2 : w7.cell? ⟨gv, 2, none⟩ = some (.slice AL cs.length cL) := by rw [cell_of_row _ _ 2 _ 86 (0, 0) H7.out.he]; rfl
                  go_wp2_with (first | (refine wpList_store_row rfl 86 (.tmp 2) (.tmp 140) rfl w.heap.size #[.string xb, .string xs, .slice AL cs.length cL] rfl rfl 86 Z86 H7.out.h2 (i86 _ _ _) rfl (a86 _ _ _ _ _) ?_) | (refine wpList_load_row rfl 86 (.tmp 8) rfl gv rfl 86 #[.string xb, .string xs, .slice AL cs.length cL] (0, 0) _ H7.out.he StmO.u86 rfl (i86 _ _ _) ?_))
                  refine bodyPost_ret (res_ct (p := 2) (q := 3) _ rfl rfl (setRow_heap _ w.heap.size _ #[.string xb, .string xs, .slice AL cs.length cL] 86 _ H7.out.h2) StmO.u86 rfl (i86 _ _ _)) rfl ?_
                  rw [HP.out]
                  refine ⟨below_setRow H7.out.below (Nat.le_refl _) _, .inr (.inr (.inr ⟨X, .slice AL cs.length cL, HR.out, HEQ.out, by rw [HX.out]; rfl, ?_⟩))⟩
                  rw [HX.out]
                  exact R_setRow H7.out.row H7.out.h2
                · rw [decide_eq_false heq] at hS
                  have HNO := Aside0.mk (show NoS L from fun y hy hL => by
                    have := HEND.out y hy hL
                    rw [this] at hL
                    exact heq hL)
                  clear heq hlo
                  go_wp2_with (refine wpList_store_same rfl 86 (.tmp 2) (.tmp 139) rfl w.heap.size Z86 rfl rfl 86 H7.out.h2 (i86 _ _ _) a86Z ?_)
                  refine bodyPost_ret (res_ct (p := 2) (q := 3) _ rfl rfl H7.out.h2 StmO.u86 rfl (i86 _ _ _)) rfl ?_
                  rw [HP.out]
                  exact ⟨H7.out.below, .inr (.inr (.inl ⟨by rw [← HN.out]; omega, HOK2.out, HNO.out, rfl⟩))⟩
            · have dj : decide ((j : Int) < (N : Int)) = true := decide_eq_true (by omega)
              have dn : decide ((0 : Int) < (n4 : Int)) = true := decide_eq_true (by omega)
              have hne : l4 ≠ [] := by intro h; have := H4.out.hn; rw [h] at this; simp at this; omega
              have HIC := Aside0.mk (⟨H4.out.on (below_alloc (Below.refl wr.heap.size wr) (.cells (encC ⟨⟨#[]⟩, ⟨#[]⟩, ⟨#[]⟩, false⟩) 140)), blk_new wr _, Kd.R_mono (Kd.R_below (Kd.R_elderB H4.out.row wr.heap.size (Nat.le_refl _)) (below_alloc (Below.refl wr.heap.size wr) _)) (fun k hk => hk.2), H4.out.below.size, by have := blk_lt H4.out.he; omega, by have := blk_lt H4.out.h2; omega⟩ : IC w gv w.heap.size A4 n4 c4 l4 xb xs vL cs wr.heap.size ⟨⟨#[]⟩, ⟨#[]⟩, ⟨#[]⟩, false⟩ (wr.alloc (.cells (encC ⟨⟨#[]⟩, ⟨#[]⟩, ⟨#[]⟩, false⟩) 140)))
              have HSTEP := Aside0.mk (fun hk => invF_step HI.out hlt hne hk)
              have HKEY := Aside0.mk (fun hk => invF_key HI.out hlt hk)
              clear H4 hne
              go_wp2_with fail
              generalize hgc : wr.heap.size = gc at *
              generalize hWc : wr.alloc (.cells (encC ⟨⟨#[]⟩, ⟨#[]⟩, ⟨#[]⟩, false⟩) 140) = Wc at *
              clear hWc
              refine (rtextB_calls w A4 c4 n4 l4 HIC.out.is.hn Wc HIC.out.is.rest HIC.out.is.below HIC.out.is.byt HIC.out.is.hc (by have := HIC.out.is.len; omega)).mono ?_
              rintro e w6 ⟨A5, c5, rfl, hr5, hc5, hb5⟩
              have hwt5 := (rtextF_wt l4).1
              have H5 := Aside0.mk ((HIC.out.on hb5).go hr5 rfl hc5 (rtextF_byt HIC.out.is.byt) (by omega))
              clear hr5 hc5 hb5 HIC
              have HG := Aside0.mk (chgF_gone (l := l4))
              have HV := Aside0.mk (chgF_live (l := l4))
              generalize chgF l4 = cf at *
              generalize (rtextF l4).1 = k1 at *
              generalize (rtextF l4).2 = r1 at *
              have xc : w6.cell? ⟨gc, 0, none⟩ = some (.string ⟨#[]⟩) := by rw [cell_of_row _ _ 0 _ 140 (0, 0) H5.out.blk]; rfl
              have fc := frozen_of_row w6 gc 0 _ 140 H5.out.blk
              have H6 := Aside0.mk (H5.out.set 0 (.string k1) ⟨k1, ⟨#[]⟩, ⟨#[]⟩, false⟩ rfl)
              clear H5
              by_cases hr1 : r1 = []
              · have HNO := Aside0.mk (HKEY.out hr1)
                subst hr1
                have H6b := H6.out.is.h2
                go_wp2_with (refine wpList_store_same rfl 86 (.tmp 2) (.tmp 94) rfl w.heap.size Z86 rfl rfl 86 H6.out.is.h2 (i86 _ _ _) a86Z ?_)
                refine bodyPost_ret (res_ct (p := 2) (q := 3) _ rfl rfl H6.out.is.h2 StmO.u86 rfl (i86 _ _ _)) rfl ?_
                rw [HP.out]
                exact ⟨H6.out.is.below, .inr (.inr (.inl ⟨by rw [← HN.out]; omega, HOK2.out, HNO.out, rfl⟩))⟩
              · have hl1 : 0 < r1.length := List.length_pos_iff.2 hr1
                have dl : ((r1.length : Int) == 0) = false := by simp; exact hr1
                have HST2 := Aside0.mk (HSTEP.out hr1)
                clear hr1 HSTEP HKEY
                obtain ⟨bq, off, rfl, hbq, hx⟩ := C_at 0 H6.out.is.rest hl1
                have HX0 := Aside0.mk (hx 0 hl1)
                have cutD : ∀ W, (Instr.slice 31 (.slice (some ⟨bq, off, none⟩) r1.length c5) (some (.int .i64 1)) none none).run Try.prog W = .ok (.slice (if c5 = 1 then (some ⟨bq, off, none⟩) else (some ⟨bq, off, none⟩ : Option Addr).map (·.add 1)) (r1.length - 1) (c5 - 1)) W := fun W => cut8_from (some ⟨bq, off, none⟩) r1.length c5 1 hl1 W
                have CD := Aside0.mk (C8_drop H6.out.is.rest H6.out.is.hc (show 1 ≤ r1.length by omega))
                generalize (if c5 = 1 then (some ⟨bq, off, none⟩) else (some ⟨bq, off, none⟩ : Option Addr).map (·.add 1)) = A6 at cutD CD
                clear hx
                have xq : (w6.setCell ⟨gc, 0, none⟩ (.string k1)).cell? ⟨bq, off, none⟩ = some (.int .u8 (r1.getD 0 0)) := (H6.out.is.below.cell (p := ⟨bq, off, none⟩) hbq).trans HX0.out
                have x3 : (w6.setCell ⟨gc, 0, none⟩ (.string k1)).cell? ⟨gc, 3, none⟩ = some (.bool false) := by rw [cell_of_row _ _ 3 _ 140 (0, 0) H6.out.blk]; rfl
                have f3 := frozen_of_row (w6.setCell ⟨gc, 0, none⟩ (.string k1)) gc 3 _ 140 H6.out.blk
                have HUB1 := Aside0.mk (H6.out.is.byt.drop 1)
                by_cases hq : r1.getD 0 0 = 1
                · have hCF := HG.out hq
                  have H7 := Aside0.mk (H6.out.set 3 (.bool true) ⟨k1, ⟨#[]⟩, ⟨#[]⟩, true⟩ rfl)
                  have H8 := Aside0.mk (H7.out.go (n' := r1.length - 1) (c' := c5 - 1) CD.out (by rw [List.length_drop]) (by have := H7.out.is.hc; omega) HUB1.out (by rw [List.length_drop]; omega))
                  rw [hq] at xq
                  rw [hCF] at HST2
                  clear hq hCF HV HG CD HUB1 H7 H6 HX0
                  have xv : ((w6.setCell ⟨gc, 0, none⟩ (.string k1)).setCell ⟨gc, 3, none⟩ (.bool true)).cell? ⟨gv, 2, none⟩ = some vL := by rw [cell_of_row _ _ 2 _ 86 (0, 0) H8.out.is.he]; rfl
                  have hszW := Aside0.mk H8.out.is.below.size
                  go_wp2_with (first | (refine wpList_load_row rfl 140 (.tmp 13) rfl gc rfl 140 (encC ⟨k1, ⟨#[]⟩, ⟨#[]⟩, true⟩) (0, 0) _ H8.out.blk StmF.u140 rfl (i140 _) ?_) | (refine list_one_C rfl (.tmp 121) rfl ⟨k1, ⟨#[]⟩, ⟨#[]⟩, true⟩ rfl ?_) | (at_builtin; refine list_append_C (w0 := w) w.heap.size rfl (.tmp 120) (.tmp 122) rfl vL cs ⟨k1, ⟨#[]⟩, ⟨#[]⟩, true⟩ rfl rfl H8.out.is.row H8.out.is.below hszW.out (by have := HI.out.wt; have := wtL_len cs; have := HN.out; omega) ?_; intro v9 w9 hr9 hb9 hg9; have HR9 := Aside0.mk hr9; obtain ⟨A9x, c9x, hv9⟩ := Kd.R_slice hr9; generalize (cs ++ [_]).length = n9x at hv9; subst hv9; have e9 := blk_grown H8.out.is.he hg9 (Kd.R_ne H8.out.is.row H8.out.is.he (by decide)); have x9 : w9.cell? ⟨gv, 2, none⟩ = some vL := (by rw [cell_of_row _ _ 2 _ 86 (0, 0) e9]; rfl); have f9 := frozen_of_row w9 gv 2 _ 86 e9; have H9 := Aside0.mk (H8.out.is.push hr9 hb9 hg9); clear hr9 hb9 hg9 e9))
                  go_roundw
                  case rel => exact ⟨j + 1, _, _, _, _, _, _, rfl, by go_num, by omega, HST2, H9⟩
                  case measure => simp [intOf]; omega
                · have hCF := HV.out hq
                  have dq : (r1.getD 0 0 == 1) = false := by simpa using hq
                  have H7 := Aside0.mk (H6.out.set 3 (.bool false) ⟨k1, ⟨#[]⟩, ⟨#[]⟩, false⟩ rfl)
                  have H8 := Aside0.mk (H7.out.go (n' := r1.length - 1) (c' := c5 - 1) CD.out (by rw [List.length_drop]) (by have := H7.out.is.hc; omega) HUB1.out (by rw [List.length_drop]; omega))
                  rw [hCF] at HST2
                  generalize r1.getD 0 0 = q at *
                  clear hq hCF HV HG CD HUB1 H7 H6 HX0
                  go_wp2_with fail
                  clear xq x3 f3 xc fc cutD
                  generalize ((w6.setCell ⟨gc, 0, none⟩ (.string k1)).setCell ⟨gc, 3, none⟩ (.bool false)) = Wd at *
                  refine (rtextB_calls w A6 (c5 - 1) (r1.length - 1) (r1.drop 1) H8.out.is.hn Wd H8.out.is.rest H8.out.is.below H8.out.is.byt H8.out.is.hc (by have := H8.out.is.len; omega)).mono ?_
                  rintro e w9 ⟨A9, c9, rfl, hr9, hc9, hb9⟩
                  have hwt9 := (rtextF_wt (r1.drop 1)).1
                  have HA := Aside0.mk ((H8.out.on hb9).go hr9 rfl hc9 (rtextF_byt H8.out.is.byt) (by omega))
                  clear hr9 hc9 hb9 H8
                  generalize (rtextF (r1.drop 1)).1 = i1 at *
                  generalize (rtextF (r1.drop 1)).2 = r2 at *
                  have xc : w9.cell? ⟨gc, 1, none⟩ = some (.string ⟨#[]⟩) := by rw [cell_of_row _ _ 1 _ 140 (0, 0) HA.out.blk]; rfl
                  have fc := frozen_of_row w9 gc 1 _ 140 HA.out.blk
                  have HA2 := Aside0.mk (HA.out.set 1 (.string i1) ⟨k1, i1, ⟨#[]⟩, false⟩ rfl)
                  clear HA
                  go_wp2_with fail
                  clear xc fc
                  generalize (w9.setCell ⟨gc, 1, none⟩ (.string i1)) = We at *
                  refine (rtextB_calls w A9 c9 _ r2 HA2.out.is.hn We HA2.out.is.rest HA2.out.is.below HA2.out.is.byt HA2.out.is.hc (by have := HA2.out.is.len; omega)).mono ?_
                  rintro e w10 ⟨A10, c10, rfl, hr9, hc9, hb9⟩
                  have hwt10 := (rtextF_wt r2).1
                  have HB := Aside0.mk ((HA2.out.on hb9).go hr9 rfl hc9 (rtextF_byt HA2.out.is.byt) (by omega))
                  clear hr9 hc9 hb9 HA2
                  generalize (rtextF r2).1 = d1 at *
                  generalize (rtextF r2).2 = r3 at *
                  have xc : w10.cell? ⟨gc, 2, none⟩ = some (.string ⟨#[]⟩) := by rw [cell_of_row _ _ 2 _ 140 (0, 0) HB.out.blk]; rfl
                  have fc := frozen_of_row w10 gc 2 _ 140 HB.out.blk
                  have HB2 := Aside0.mk (HB.out.set 2 (.string d1) ⟨k1, i1, d1, false⟩ rfl)
                  clear HB
                  have xv : (w10.setCell ⟨gc, 2, none⟩ (.string d1)).cell? ⟨gv, 2, none⟩ = some vL := by rw [cell_of_row _ _ 2 _ 86 (0, 0) HB2.out.is.he]; rfl
                  have hszW := Aside0.mk HB2.out.is.below.size
                  go_wp2_with (first | (refine wpList_load_row rfl 140 (.tmp 13) rfl gc rfl 140 (encC ⟨k1, i1, d1, false⟩) (0, 0) _ HB2.out.blk StmF.u140 rfl (i140 _) ?_) | (refine list_one_C rfl (.tmp 121) rfl ⟨k1, i1, d1, false⟩ rfl ?_) | (at_builtin; refine list_append_C (w0 := w) w.heap.size rfl (.tmp 120) (.tmp 122) rfl vL cs ⟨k1, i1, d1, false⟩ rfl rfl HB2.out.is.row HB2.out.is.below hszW.out (by have := HI.out.wt; have := wtL_len cs; have := HN.out; omega) ?_; intro v9 w9 hr9 hb9 hg9; have HR9 := Aside0.mk hr9; obtain ⟨A9x, c9x, hv9⟩ := Kd.R_slice hr9; generalize (cs ++ [_]).length = n9x at hv9; subst hv9; have e9 := blk_grown HB2.out.is.he hg9 (Kd.R_ne HB2.out.is.row HB2.out.is.he (by decide)); have x9 : w9.cell? ⟨gv, 2, none⟩ = some vL := (by rw [cell_of_row _ _ 2 _ 86 (0, 0) e9]; rfl); have f9 := frozen_of_row w9 gv 2 _ 86 e9; have H9 := Aside0.mk (HB2.out.is.push hr9 hb9 hg9); clear hr9 hb9 hg9 e9))
                  go_roundw
                  case rel => exact ⟨j + 1, _, _, _, _, _, _, rfl, by go_num, by omega, HST2, H9⟩
                  case measure => simp [intOf]; omega
end Go.Proofs.Ytfefpbnhpncmlaa.StmT
namespace Go.Proofs.Ytfefpbnhpncmlaa.StmV
open Go.RowKit Go.Proofs.Ytfefpbnhpncmlaa.EntL Go.Proofs.Ytfefpbnhpncmlaa.EntB Go.Proofs.Ytfefpbnhpncmlaa.EntC Go.Proofs.Ytfefpbnhpncmlaa.EntD Go.Proofs.Ytfefpbnhpncmlaa.EntE Go.Proofs.Ytfefpbnhpncmlaa.EntF Go.Proofs.Ytfefpbnhpncmlaa.CatR Go.Proofs.Ytfefpbnhpncmlaa.CatT Go.Proofs.Ytfefpbnhpncmlaa.CatU Go.Proofs.Ytfefpbnhpncmlaa.CatK Go.Proofs.Ytfefpbnhpncmlaa.CatS Go.Proofs.Ytfefpbnhpncmlaa.CatY Go.Proofs.Ytfefpbnhpncmlaa.RefG Go.Proofs.Ytfefpbnhpncmlaa.PtrB Go.Proofs.Ytfefpbnhpncmlaa.PtrG Go.Proofs.Ytfefpbnhpncmlaa.Agg Go.Proofs.Ytfefpbnhpncmlaa.B8 Go.Proofs.Ytfefpbnhpncmlaa.CodL Go.Proofs.Ytfefpbnhpncmlaa.CodA Go.Proofs.Ytfefpbnhpncmlaa.CodB Go.Proofs.Ytfefpbnhpncmlaa.CatL Go.Proofs.Ytfefpbnhpncmlaa.PtrA Go.Proofs.Ytfefpbnhpncmlaa.PtrE Go.Proofs.Ytfefpbnhpncmlaa.PtrF Go.Proofs.Ytfefpbnhpncmlaa.PBaseSigns Go.Proofs.YtfefpbnhpncmlaaW.PrintWords Go.Proofs.YtfefpbnhpncmlaaW.PrintLast Go.Proofs.YtfefpbnhpncmlaaW.PrintMore Go.Proofs.Ytfefpbnhpncmlaa.EntG Go.Proofs.Ytfefpbnhpncmlaa.StmA Go.Proofs.Ytfefpbnhpncmlaa.StmB Go.Proofs.Ytfefpbnhpncmlaa.StmC Go.Proofs.Ytfefpbnhpncmlaa.CrcC Go.Proofs.Ytfefpbnhpncmlaa.StmD Go.Proofs.Ytfefpbnhpncmlaa.StmE Go.Proofs.Ytfefpbnhpncmlaa.CrcL Go.Proofs.Ytfefpbnhpncmlaa.StmL Go.Proofs.Ytfefpbnhpncmlaa.StmF Go.Proofs.Ytfefpbnhpncmlaa.StmG Go.Proofs.Ytfefpbnhpncmlaa.StmH Go.Proofs.Ytfefpbnhpncmlaa.StmI Go.Proofs.Ytfefpbnhpncmlaa.StmJ Go.Proofs.Ytfefpbnhpncmlaa.StmK Go.Proofs.Ytfefpbnhpncmlaa.StmM Go.Proofs.Ytfefpbnhpncmlaa.StmN Go.Proofs.Ytfefpbnhpncmlaa.StmO Go.Proofs.Ytfefpbnhpncmlaa.StmP Go.Proofs.Ytfefpbnhpncmlaa.StmR Go.Proofs.Ytfefpbnhpncmlaa.CrcM Go.Proofs.Ytfefpbnhpncmlaa.StmS Go.Proofs.Ytfefpbnhpncmlaa.StmT Go.Proofs.Ytfefpbnhpncmlaa.StmQ
set_option linter.unusedVariables false
set_option linter.unusedSimpArgs false

abbrev Z79 : Array Value := #[.string ⟨#[]⟩, .string ⟨#[]⟩, .slice none 0 0]
theorem wpAnyH_mono {P : Program} {md : Region.Mode} {ops : Array Oper} {Q : Exit → Act → World → Prop} {S S' : World → Prop} (hS : ∀ w, S' w → S w) :
    ∀ {fuel : Nat} {listed : Array Bool} {a : Act} {w : World}, wpAnyH P md ops Q S' fuel listed a w → wpAnyH P md ops Q S fuel listed a w
  | 0, _, _, _, h => h
  | fuel + 1, _, _, _, h => ⟨h.1, fun i hi => wpOp_mono (fun a' w' h' => ⟨hS _ h'.1, wpAnyH_mono hS h'.2⟩) (h.2 i hi)⟩
/-- A stream's changes stand. -/
def cellS (w : World) (w' : World) (v : Value) (l : List Chg) : Prop := ∃ A c xs, v = .slice A l.length c ∧ CR w' A l.length xs l
theorem magic_str (l : List Int) (h : Byt l) : ((strOfNums l).toList == [83, 66, 88, 83]) = decide (l = [83, 66, 88, 83]) := by
  have := CatV.str_iff l [83, 66, 88, 83] h (by intro x hx; simp at hx; omega)
  rw [← this, show (strOfNums [83, 66, 88, 83]).toList = [83, 66, 88, 83] by decide +kernel]
theorem C8_moves {W W1 : World} {A : Option Addr} {n : Nat} {xs : List Int} (h : C8 W A n xs) (hk : ∀ ad, A = some ad → W1.heap[ad.block]? = W.heap[ad.block]?) : C8 W1 A n xs :=
  ⟨h.1, h.2.1, fun hn => by
    obtain ⟨ad, e, hc⟩ := h.2.2 hn
    refine ⟨ad, e, fun j p hj => ?_⟩
    obtain ⟨c, h1, h2, h3⟩ := hc j p hj
    refine ⟨c, h1, h2, fun i u hu => ?_⟩
    have hb : W1.heap[(ad.add (j * (Kd.int .u8).sz + i)).block]? = W.heap[(ad.add (j * (Kd.int .u8).sz + i)).block]? := by
      have e0 : (ad.add (j * (Kd.int .u8).sz + i)).block = ad.block := by unfold Addr.add; split <;> rfl
      rw [e0]; exact hk ad e
    exact (World.cell?_of_block hb).trans (h3 i u hu)⟩
theorem CA_moves {W W1 : World} {A1 : Option Addr} {n1 c1 : Nat} {A2 : Option Addr} {n2 c2 : Nat} {A3 : Option Addr} {n3 c3 : Nat} {y : Chg} (h : CA W A1 n1 c1 A2 n2 c2 A3 n3 c3 y) (hk : ∀ ad, (A1 = some ad ∨ A2 = some ad ∨ A3 = some ad) → W1.heap[ad.block]? = W.heap[ad.block]?) : CA W1 A1 n1 c1 A2 n2 c2 A3 n3 c3 y :=
  ⟨C8_moves h.k fun ad e => hk ad (.inl e), C8_moves h.i fun ad e => hk ad (.inr (.inl e)), C8_moves h.d fun ad e => hk ad (.inr (.inr e)), h.h1, h.h2, h.h3⟩
/-- A change's bytes lie apart. -/
def FarP (w : World) (g gx : Nat) (own : Option Nat) (W : World) (x : Sl) : Prop := ∀ ad, (x.A1 = some ad ∨ x.A2 = some ad ∨ x.A3 = some ad) → ad.block ≠ g ∧ ad.block ≠ gx ∧ ad.block ≠ w.heap.size ∧ some ad.block ≠ own ∧ ad.block < W.heap.size
structure IU (w : World) (g gx : Nat) (l : List Int) (bad : Bool) (xb xs : ByteArray) (vL : Value) (cs : List Chg) (sl : List Sl) (W : World) : Prop where
  rd : RB w g l bad W
  hx : W.heap[gx]? = some (.cells #[.string xb, .string xs, vL] 79 (0, 0))
  h2 : W.heap[w.heap.size]? = some (.cells Z79 79 (0, 0))
  gle : w.heap.size ≤ gx
  ne : gx ≠ w.heap.size
  ng : gx ≠ g
  n2 : w.heap.size ≠ g
  row : Kd.R kS 133 W w.heap.size (fun _ => True) vL sl
  len : cs.length = sl.length
  each : ∀ i, i < sl.length → (sl.getD i default).ca W (cs.getD i default)
  far : ∀ i, i < sl.length → FarP w g gx vL.ownBlock W (sl.getD i default)
theorem kS_types (t : Nat) (h : t ≠ 133) : ∀ q, q ∈ 133 :: kS.E → q ≠ t := by
  intro q hq
  simp [kS, kF] at hq
  omega
section
variable {w : World} {g gx : Nat} {l l' : List Int} {bad bad' : Bool} {xb xs : ByteArray} {vL v1 : Value} {cs : List Chg} {sl : List Sl} {W W1 w1 : World}
theorem IU.blkG (h : IU w g gx l bad xb xs vL cs sl W) : ∃ cells, W.heap[g]? = some (.cells cells 149 (0, 0)) := by
  obtain ⟨A, c, _, _, h3⟩ := h.rd.blk
  exact ⟨_, h3⟩
theorem IU.keep (h : IU w g gx l bad xb xs vL cs sl W) (h1 : RB w g l' bad' W1) (hk : KeepBut W W1 g none) : IU w g gx l' bad' xb xs vL cs sl W1 := by
  obtain ⟨cells, hg⟩ := h.blkG
  refine ⟨h1, hk.blk h.hx h.ng (by simp), hk.blk h.h2 h.n2 (by simp), h.gle, h.ne, h.ng, h.n2, ?_, h.len, fun i hi => ⟨CA_moves (h.each i hi).1 fun ad e => ?_, (h.each i hi).2⟩, fun i hi ad e => ?_⟩
  · exact Kd.R_mono (Kd.R_keep (Kd.R_types h.row hg (kS_types 149 (by decide))) hk (fun k hk => hk.2)) (fun _ _ => trivial)
  · obtain ⟨a1, a2, a3, a4, a5⟩ := h.far i hi ad e
    exact hk.2 _ a5 a1 (by simp)
  · obtain ⟨a1, a2, a3, a4, a5⟩ := h.far i hi ad e
    exact ⟨a1, a2, a3, a4, Nat.lt_of_lt_of_le a5 hk.1⟩
theorem IU.on (h : IU w g gx l bad xb xs vL cs sl W) (hb : Below W.heap.size W W1) : IU w g gx l bad xb xs vL cs sl W1 := h.keep (h.rd.on hb) (KeepBut.of_below hb g none)
theorem IU.push (h : IU w g gx l bad xb xs vL cs sl W) {p : Sl} {y : Chg} (hp : p.ca W y) (hf : FarP w g gx vL.ownBlock W p)
    (h1 : Kd.R kS 133 w1 w.heap.size (fun _ => True) v1 (sl ++ [p])) (h2 : Below w.heap.size w w1) (h3 : W.grownBy w1 vL.ownBlock) (h4 : v1.ownBlock = vL.ownBlock ∨ ∃ b, v1.ownBlock = some b ∧ W.heap.size ≤ b) :
    IU w g gx l bad xb xs v1 (cs ++ [y]) (sl ++ [p]) (w1.setCell ⟨gx, 2, none⟩ v1) := by
  obtain ⟨cells, hg⟩ := h.blkG
  have eg := blk_grown hg h3 (Kd.R_ne h.row hg (by decide))
  have ex := blk_grown h.hx h3 (Kd.R_ne h.row h.hx (by decide))
  have e2 := blk_grown h.h2 h3 (Kd.R_ne h.row h.h2 (by decide))
  have mv : ∀ k, k ≠ gx → some k ≠ vL.ownBlock → k < W.heap.size → (w1.setCell ⟨gx, 2, none⟩ v1).heap[k]? = W.heap[k]? := fun k a1 a2 a3 =>
    (heap_setCell_other _ _ _ _ a1).trans (h3.block k a3 a2)
  have fr : ∀ x, FarP w g gx vL.ownBlock W x → FarP w g gx v1.ownBlock (w1.setCell ⟨gx, 2, none⟩ v1) x := fun x hx ad e => by
    obtain ⟨a1, a2, a3, a4, a5⟩ := hx ad e
    refine ⟨a1, a2, a3, ?_, by rw [World.size_setCell]; exact Nat.lt_of_lt_of_le a5 h3.size⟩
    rcases h4 with h4 | ⟨b, h4, h5⟩
    · rw [h4]; exact a4
    · rw [h4]
      intro he
      injection he with he
      omega
  have sp : ∀ i, i < (sl ++ [p]).length → (i < sl.length ∧ (sl ++ [p]).getD i default = sl.getD i default ∧ (cs ++ [y]).getD i default = cs.getD i default) ∨ (i = sl.length ∧ (sl ++ [p]).getD i default = p ∧ (cs ++ [y]).getD i default = y) := fun i hi => by
    rw [List.length_append] at hi
    simp only [List.length_cons, List.length_nil] at hi
    have hl := h.len
    by_cases hlt : i < sl.length
    · left
      refine ⟨hlt, ?_, ?_⟩
      · rw [List.getD_eq_getElem?_getD, List.getD_eq_getElem?_getD, List.getElem?_append_left hlt]
      · rw [List.getD_eq_getElem?_getD, List.getD_eq_getElem?_getD, List.getElem?_append_left (by omega)]
    · right
      obtain rfl : i = sl.length := by omega
      refine ⟨rfl, ?_, ?_⟩
      · rw [List.getD_eq_getElem?_getD, List.getElem?_append_right (by omega)]; simp
      · rw [List.getD_eq_getElem?_getD, List.getElem?_append_right (by omega), hl]; simp
  refine ⟨h.rd.keep (h2.setCell h.gle _) ((heap_setCell_other _ _ _ _ (Ne.symm h.ng)).trans (eg.trans hg.symm)), ?_, blk_far e2 (by simp; exact Ne.symm h.ne) _, h.gle, h.ne, h.ng, h.n2, ?_, by rw [List.length_append, List.length_append, h.len]; rfl, fun i hi => ?_, fun i hi => ?_⟩
  · rw [heap_setCell_same _ _ _ _ _ _ ex]; rfl
  · exact Kd.R_mono (Kd.R_set h1 ex (kS_types 79 (by decide)) _ _) (fun _ _ => trivial)
  · rcases sp i hi with ⟨hlt, e1, e3⟩ | ⟨_, e1, e3⟩
    · rw [e1, e3]
      exact ⟨CA_moves (h.each i hlt).1 fun ad e => (have a := h.far i hlt ad e; mv _ a.2.1 a.2.2.2.1 a.2.2.2.2), (h.each i hlt).2⟩
    · rw [e1, e3]
      exact ⟨CA_moves hp.1 fun ad e => (have a := hf ad e; mv _ a.2.1 a.2.2.2.1 a.2.2.2.2), hp.2⟩
  · rcases sp i hi with ⟨hlt, e1, e3⟩ | ⟨_, e1, e3⟩
    · rw [e1]; exact fr _ (h.far i hlt)
    · rw [e1]; exact fr _ hf
/-- What is told. -/
theorem IU.cell (h : IU w g gx l bad xb xs vL cs sl W) (b : Array Value) : cellS w (W.setRow w.heap.size b) vL cs := by
  have hr : Kd.R kS 133 (W.setRow w.heap.size b) w.heap.size (fun _ => True) vL sl :=
    Kd.R_mono (Kd.R_step (Kd.R_types h.row h.h2 (kS_types 79 (by decide))) (fun k hk _ => setRow_other _ _ _ _ hk.2)) (fun _ _ => trivial)
  obtain ⟨A, c, e, _, hc⟩ := Kd.R_reads hr
  refine ⟨A, c, sl, by rw [h.len]; exact e, ⟨by rw [h.len]; exact hc, rfl, fun i hi => ?_⟩⟩
  rw [h.len] at hi
  exact ⟨CA_moves (h.each i hi).1 fun ad e => setRow_other _ _ _ _ (h.far i hi ad e).2.2.1, (h.each i hi).2⟩
theorem IU.cr (h : IU w g gx l bad xb xs vL cs sl W) : ∃ A c, vL = .slice A cs.length c ∧ CR W A cs.length sl cs := by
  obtain ⟨A, c, e, _, hc⟩ := Kd.R_reads h.row
  refine ⟨A, c, by rw [h.len]; exact e, ⟨by rw [h.len]; exact hc, rfl, fun i hi => h.each i (by rw [h.len] at hi; exact hi)⟩⟩
end
end Go.Proofs.Ytfefpbnhpncmlaa.StmV
namespace Go.Proofs.Ytfefpbnhpncmlaa.StmU
open Go.RowKit Go.Proofs.Ytfefpbnhpncmlaa.EntL Go.Proofs.Ytfefpbnhpncmlaa.EntB Go.Proofs.Ytfefpbnhpncmlaa.EntC Go.Proofs.Ytfefpbnhpncmlaa.EntD Go.Proofs.Ytfefpbnhpncmlaa.EntE Go.Proofs.Ytfefpbnhpncmlaa.EntF Go.Proofs.Ytfefpbnhpncmlaa.CatR Go.Proofs.Ytfefpbnhpncmlaa.CatT Go.Proofs.Ytfefpbnhpncmlaa.CatU Go.Proofs.Ytfefpbnhpncmlaa.CatK Go.Proofs.Ytfefpbnhpncmlaa.CatS Go.Proofs.Ytfefpbnhpncmlaa.CatY Go.Proofs.Ytfefpbnhpncmlaa.RefG Go.Proofs.Ytfefpbnhpncmlaa.PtrB Go.Proofs.Ytfefpbnhpncmlaa.PtrG Go.Proofs.Ytfefpbnhpncmlaa.Agg Go.Proofs.Ytfefpbnhpncmlaa.B8 Go.Proofs.Ytfefpbnhpncmlaa.CodL Go.Proofs.Ytfefpbnhpncmlaa.CodA Go.Proofs.Ytfefpbnhpncmlaa.CodB Go.Proofs.Ytfefpbnhpncmlaa.CatL Go.Proofs.Ytfefpbnhpncmlaa.PtrA Go.Proofs.Ytfefpbnhpncmlaa.PtrE Go.Proofs.Ytfefpbnhpncmlaa.PtrF Go.Proofs.Ytfefpbnhpncmlaa.PBaseSigns Go.Proofs.YtfefpbnhpncmlaaW.PrintWords Go.Proofs.YtfefpbnhpncmlaaW.PrintLast Go.Proofs.YtfefpbnhpncmlaaW.PrintMore Go.Proofs.Ytfefpbnhpncmlaa.EntG Go.Proofs.Ytfefpbnhpncmlaa.StmA Go.Proofs.Ytfefpbnhpncmlaa.StmB Go.Proofs.Ytfefpbnhpncmlaa.StmC Go.Proofs.Ytfefpbnhpncmlaa.CrcC Go.Proofs.Ytfefpbnhpncmlaa.StmD Go.Proofs.Ytfefpbnhpncmlaa.StmE Go.Proofs.Ytfefpbnhpncmlaa.CrcL Go.Proofs.Ytfefpbnhpncmlaa.StmL Go.Proofs.Ytfefpbnhpncmlaa.StmF Go.Proofs.Ytfefpbnhpncmlaa.StmG Go.Proofs.Ytfefpbnhpncmlaa.StmH Go.Proofs.Ytfefpbnhpncmlaa.StmI Go.Proofs.Ytfefpbnhpncmlaa.StmJ Go.Proofs.Ytfefpbnhpncmlaa.StmK Go.Proofs.Ytfefpbnhpncmlaa.StmM Go.Proofs.Ytfefpbnhpncmlaa.StmN Go.Proofs.Ytfefpbnhpncmlaa.StmO Go.Proofs.Ytfefpbnhpncmlaa.StmP Go.Proofs.Ytfefpbnhpncmlaa.StmR Go.Proofs.Ytfefpbnhpncmlaa.CrcM Go.Proofs.Ytfefpbnhpncmlaa.StmS Go.Proofs.Ytfefpbnhpncmlaa.StmT Go.Proofs.Ytfefpbnhpncmlaa.StmQ Go.Proofs.Ytfefpbnhpncmlaa.StmV
set_option linter.unusedVariables false
set_option linter.unusedSimpArgs false

section
variable {ops : Array Oper} {o : Oper} {rest : List Oper} {a : Act} {Q : Exit → Act → World → Prop} {K : Act → World → Prop}
theorem wp_alloc79 {w : World} (ho : o.op = .alloc 79)
    (h : K (a.put o.dst (.pointer (some ⟨w.heap.size, 0, none⟩))) (w.alloc (.cells Z79 79))) : o.wp Try.prog a w K Q := by
  unfold Oper.wp execOp
  have hr : (Instr.alloc 79 true (.tuple #[])).run Try.prog w = .ok (.pointer (some ⟨w.heap.size, 0, none⟩)) (w.alloc (.cells Z79 79)) := by kernel_rfl
  simp only [ho, Sem.run_bind, Sem.run_pure, Result.andThen_ok, hr]
  exact h
theorem wp_one_S {w : World} (x : Operand) (ho : o.op = .buildSlice 77 1 #[(0, x)]) (p : Sl) (hx : a.eval x = .agg (encS p))
    (h : K (a.put o.dst (.slice (some ⟨w.heap.size, 0, none⟩) 1 1)) (w.alloc (.cells (encS p) 133))) : o.wp Try.prog a w K Q := by
  unfold Oper.wp execOp
  have hm : (#[(0, x)] : Array (Nat × Operand)).map (fun (i, x) => (i, a.eval x)) = #[(0, .agg (encS p))] := by simp [hx]
  have hr : (Instr.buildSlice 77 1 #[(0, .agg (encS p))]).run Try.prog w = .ok (.slice (some ⟨w.heap.size, 0, none⟩) 1 1) (w.alloc (.cells (encS p) 133)) := by kernel_rfl
  simp only [ho]
  rw [hm]
  simp only [Sem.run_bind, Sem.run_pure, Result.andThen_ok, hr]
  exact h
end
theorem readText_63 (A : Option Addr) (c n : Nat) (l : List Int) (hn : n = l.length) (w : World) (hr : C8 w A n l) (hb : Byt l) (hc : n ≤ c) (hm : n ≤ 1000000) :
    Calls Try.prog 110 #[.slice A n c, .int .i64 ((63 : Nat) : Int)] w fun e w' => e = .returned (.tuple #[.string (readText l 63).1, .int .i64 ((readText l 63).2.1 : Int), .int .i64 (readText l 63).2.2]) ∧ w = w' :=
  readText_calls A c n l hn w hr hb hc hm
theorem numR_le (l : List Int) (hb : Byt l) : 0 ≤ (if badN l 65536 = true then 0 else (readShort l).1) ∧ (if badN l 65536 = true then 0 else (readShort l).1) ≤ 65536 := by
  by_cases h : badN l 65536 = true
  · rw [if_pos h]; omega
  · rw [if_neg h]
    have h2 := readShort_bound hb
    unfold badN at h
    simp at h
    omega
set_option maxRecDepth 100000 in
set_option maxHeartbeats 16000000 in
theorem readS_calls (A : Option Addr) (c n : Nat) (L : List Int) (hn : n = L.length) (w : World) (hr : C8 w A n L) (hb : Byt L) (hc : n ≤ c) (hm : n ≤ 10000) :
    Calls Try.prog 49 #[.slice A n c] w (TellsReadS w (cellS w) L (.agg Z79)) := by
  have HC := Aside0.mk (And.intro hr (And.intro hb hc))
  have HN := Aside0.mk hn
  have B0 := Aside0.mk (below_alloc (Below.refl w.heap.size w) (.cells Z79 79))
  have G0 := Aside0.mk (blk_new w (.cells Z79 79))
  obtain ⟨P, hP⟩ : ∃ P : Ending → World → Prop, P = TellsReadS w (cellS w) L (.agg Z79) := ⟨_, rfl⟩
  rw [← hP]
  have HP := Aside0.mk hP
  clear hP hr hb hn
  go_enter Try.func49, Try.ntmps49
  by_cases h8 : n < 8
  · have d8 : decide ((n : Int) < 8) = true := decide_eq_true (by omega)
    go_wp2_with (refine wpList_store_same rfl 79 (.tmp 2) (.tmp 15) rfl w.heap.size Z79 rfl rfl 79 G0.out (i79 _ _ _) a86Z ?_)
    refine bodyPost_ret (res_ct (p := 2) (q := 3) _ rfl rfl G0.out StmP.u79 rfl (i79 _ _ _)) rfl ?_
    rw [HP.out]
    exact ⟨B0.out, .inl ⟨by rw [← HN.out]; exact h8, rfl⟩⟩
  · have d8 : decide ((n : Int) < 8) = false := decide_eq_false (by omega)
    obtain ⟨k, hk⟩ : ∃ k, n = k + 4 := ⟨n - 4, by omega⟩
    have ek : ((n : Int) - 4) = (k : Int) := by omega
    have hk4 : 4 ≤ k := by omega
    have cutA := cut8_to A n c k (by omega) hc
    have cutB := cut8_from A n c k (by omega)
    have e4 : (L.drop k).length = 4 := by rw [List.length_drop]; have := HN.out; omega
    have hck : ¬ c = k := by omega
    have CD := Aside0.mk (show C8 w (Option.map (fun x => x.add k) A) 4 (L.drop k) by
      have := C8_drop HC.out.1 hc (j := k) (by omega)
      rw [if_neg hck, show n - k = 4 by omega] at this
      exact this)
    have CT := Aside0.mk (show C8 w A k (L.take k) from C_take HC.out.1 (by omega))
    have C4 := Aside0.mk (show C8 w A 4 (L.take 4) from C_take HC.out.1 (by omega))
    have hbD := HC.out.2.1.drop k
    have hbT := HC.out.2.1.take k
    have etk : (L.take k).length = k := by rw [List.length_take]; have := HN.out; omega
    have hlb := leL_bound hbD
    rw [e4] at hlb
    have hsl := sumN_lt (L.take k)
    have HOK : Aside0 (OkSum L ↔ leL (L.drop k) = (sumN (L.take k) : Int)) := ⟨by
      unfold OkSum
      rw [show L.length - 4 = k by have := HN.out; omega]⟩
    have ER0 := Aside0.mk (show (L.take k).drop 4 = rest0 L by rw [rest0, show L.length - 4 = k by have := HN.out; omega])
    have HB0 := Aside0.mk (And.intro hbD (And.intro hbT (And.intro e4 etk)))
    clear hbD hbT
    go_wp2_with fail
    generalize hW0 : w.alloc (.cells Z79 79) = W0 at *
    have hs0 : W0.heap.size = w.heap.size + 1 := by rw [← hW0]; simp
    clear hW0
    have T := CodB.take_calls (A.map (fun x => x.add k)) (c - k) (L.drop k) 4 W0 (by rw [e4]; exact Kd.C_below CD.out B0.out) HB0.out.1 (by omega) (by omega) (by decide) (by decide) (by omega)
    rw [show (L.drop k).take 4 = L.drop k from List.take_of_length_le (by omega), e4] at T
    refine T.mono ?_
    rintro e w1 ⟨v1, rfl, hr1, hb1⟩
    have B1 := Aside0.mk (below_then B0.out B0.out.size hb1)
    have G1 := Aside0.mk (blk_below G0.out hb1)
    have hs1 : w.heap.size < w1.heap.size := by have := hb1.size; omega
    have wr32 : IntKind.u32.wrap (leL (L.drop k)) = leL (L.drop k) := by rw [IntKind.wrap_u32]; omega
    clear T hr1 hb1 G0 B0 hs0
    go_wp2_with fail
    refine (sum_calls A c k (L.take k) etk.symm w1 (Kd.C_below CT.out B1.out) HB0.out.2.1).mono ?_
    rintro e w2 ⟨rfl, hb2⟩
    have B2 := Aside0.mk (below_then B1.out B1.out.size hb2)
    have G2 := Aside0.mk (blk_below G1.out hb2)
    have hs2 : w.heap.size < w2.heap.size := by have := hb2.size; omega
    clear hb2 B1 G1 hs1
    by_cases hok : leL (L.drop k) = (sumN (L.take k) : Int)
    case neg =>
      have hne : (leL (L.drop k) != (sumN (L.take k) : Int)) = true := by simp [hok]
      have hne2 : (leL (L.drop k) == (sumN (L.take k) : Int)) = false := by simp [hok]
      have HOK2 := Aside0.mk (fun h => hok (HOK.out.1 h))
      clear hok HOK
      go_wp2_with (refine wpList_store_same rfl 79 (.tmp 2) (.tmp 34) rfl w.heap.size Z79 rfl rfl 79 G2.out (i79 _ _ _) a86Z ?_)
      refine bodyPost_ret (res_ct (p := 2) (q := 3) _ rfl rfl G2.out StmP.u79 rfl (i79 _ _ _)) rfl ?_
      rw [HP.out]
      exact ⟨B2.out, .inr (.inl ⟨by rw [← HN.out]; omega, HOK2.out, rfl⟩)⟩
    case pos =>
      have hne : (leL (L.drop k) != (sumN (L.take k) : Int)) = false := by simp [hok]
      have hne2 : (leL (L.drop k) == (sumN (L.take k) : Int)) = true := by simp [hok]
      have HOK2 := Aside0.mk (HOK.out.2 hok)
      clear hok HOK
      have cutM : ∀ W, (Instr.slice 31 (.slice A (k + 4) c) none (some (.int .i64 4)) none).run Try.prog W = .ok (.slice A 4 c) W := fun W => cut8_to A (k + 4) c 4 (by omega) (by omega) W
      have cm := Kd.C_string (P := Try.prog) (c := c) Try.underlying31 Try.underlying5 Try.underlying9 (Kd.C_below C4.out B2.out)
      have hS := magic_str (L.take 4) (HC.out.2.1.take 4)
      by_cases hmg : L.take 4 = [83, 66, 88, 83]
      case neg =>
        rw [decide_eq_false hmg] at hS
        have HNO := Aside0.mk (noS_magic hmg)
        clear hmg
        generalize strOfNums (L.take 4) = S4 at *
        go_wp2_with (refine wpList_store_same rfl 79 (.tmp 2) (.tmp 39) rfl w.heap.size Z79 rfl rfl 79 G2.out (i79 _ _ _) a86Z ?_)
        refine bodyPost_ret (res_ct (p := 2) (q := 3) _ rfl rfl G2.out StmP.u79 rfl (i79 _ _ _)) rfl ?_
        rw [HP.out]
        exact ⟨B2.out, .inr (.inr (.inl ⟨by rw [← HN.out]; omega, HOK2.out, HNO.out, rfl⟩))⟩
      case pos =>
        rw [decide_eq_true hmg] at hS
        clear hmg
        generalize strOfNums (L.take 4) = S4 at *
        have hl0 : (rest0 L).length = k - 4 := by rw [rest0_len]; have := HN.out; omega
        have HBR := Aside0.mk (show Byt (rest0 L) by rw [← ER0.out]; exact HB0.out.2.1.drop 4)
        have cutC : ∀ W, (Instr.slice 31 (.slice A (k + 4) c) (some (.int .i64 4)) (some (.int .i64 (k : Int))) none).run Try.prog W = .ok (.slice (if c = 4 then A else A.map (·.add 4)) (k - 4) (c - 4)) W := fun W => cut8_mid A (k + 4) c 4 k hk4 (by omega) (by omega) W
        have CR0 := Aside0.mk (C8_mid (c := c) HC.out.1 hc hk4 (show k ≤ n by omega))
        rw [ER0.out] at CR0
        generalize (if c = 4 then A else A.map (·.add 4)) = A0 at cutC CR0
        have HR0' := Aside0.mk (⟨B2.out.alloc B2.out.size _, ⟨A0, c - 4, by rw [hl0]; exact CR0.out, by omega, by rw [hl0]; exact blk_new w2 _⟩, by omega, HBR.out, by omega⟩ : RB w w2.heap.size (rest0 L) false (w2.alloc (.cells #[.slice A0 (k - 4) (c - 4), .nilIface] 149)))
        have HZ0' := Aside0.mk (blk_alloc G2.out (.cells #[.slice A0 (k - 4) (c - 4), .nilIface] 149))
        have HD : Aside0 (headR L = ((readText (rest0 L) 63).1, (readText ((rest0 L).drop (readText (rest0 L) 63).2.1) 63).1, (if badN (((rest0 L).drop (readText (rest0 L) 63).2.1).drop (readText ((rest0 L).drop (readText (rest0 L) 63).2.1) 63).2.1) 65536 = true then 0 else (readShort (((rest0 L).drop (readText (rest0 L) 63).2.1).drop (readText ((rest0 L).drop (readText (rest0 L) 63).2.1) 63).2.1)).1), (if badN (((rest0 L).drop (readText (rest0 L) 63).2.1).drop (readText ((rest0 L).drop (readText (rest0 L) 63).2.1) 63).2.1) 65536 = true then (((rest0 L).drop (readText (rest0 L) 63).2.1).drop (readText ((rest0 L).drop (readText (rest0 L) 63).2.1) 63).2.1) else (((rest0 L).drop (readText (rest0 L) 63).2.1).drop (readText ((rest0 L).drop (readText (rest0 L) 63).2.1) 63).2.1).drop (readShort (((rest0 L).drop (readText (rest0 L) 63).2.1).drop (readText ((rest0 L).drop (readText (rest0 L) 63).2.1) 63).2.1)).2.1), (((false || decide ((readText (rest0 L) 63).2.2 ≠ 0)) || decide ((readText ((rest0 L).drop (readText (rest0 L) 63).2.1) 63).2.2 ≠ 0)) || badN (((rest0 L).drop (readText (rest0 L) 63).2.1).drop (readText ((rest0 L).drop (readText (rest0 L) 63).2.1) 63).2.1) 65536))) := ⟨rfl⟩
        have HST := Aside0.mk (inv_start L)
        rw [HD.out] at HST
        simp only at HST
        clear HD CR0 HBR G2 B2 CT CD
        go_wp2
        clear cm hS C4
        generalize hg : w2.heap.size = g at *
        clear hg
        have HR0 := Aside0.mk (HR0'.out.on (below_drew (Below.refl _ _)))
        have HZ0 := Aside0.mk (blk_below HZ0'.out (below_drew (Below.refl _ _)))
        clear HR0' HZ0'
        refine wp_region_held_drew (S := fun _ => True) (by kernel_rfl) trivial (fun _ => ?_)
        generalize hW0 : (w2.alloc (.cells #[.slice A0 (k - 4) (c - 4), .nilIface] 149)).drew = W0 at *
        clear hW0
        have hzg0 := HR0.out.lt
        refine wpAnyH_take (i := 0) (oi := ⟨some 45, _, _, _, _, _⟩) (v := .pointer (some ⟨g, 0, none⟩)) rfl (by kernel_rfl) (by kernel_rfl) (by kernel_rfl) (fun _ _ _ h => h) (.inl ⟨by rfl, fun W1 h1 => by go_simp⟩) trivial ?_
        try simp only [Act.put, List.setIfInBounds_toArray, List.set_cons_zero, List.set_cons_succ]
        refine wpAnyH_take (i := 3) (oi := ⟨some 48, _, _, _, _, _⟩) (v := .pointer (some ⟨g, 0, none⟩)) rfl (by kernel_rfl) (by kernel_rfl) (by kernel_rfl) (fun _ _ _ h => h) (.inl ⟨by rfl, fun W1 h1 => by go_simp⟩) trivial ?_
        try simp only [Act.put, List.setIfInBounds_toArray, List.set_cons_zero, List.set_cons_succ]
        refine wpAnyH_ready (rs := [1, 7]) (by kernel_rfl) (by simp) (AllReadyH.cons rfl (fun K1 hK1 => ?_) (AllReadyH.cons rfl (fun K2 hK2 => ?_) AllReadyH.nil))
        · go_simp
          refine (textT_calls 63 (by decide) readText_63 w g (rest0 L) false W0 HR0.out).mono ?_
          rintro e Wa0 ⟨A46, c46, fr46, rfl, hc46, hle46, hrd, hkp⟩
          generalize (readText (rest0 L) 63).1 = s1 at *
          generalize (rest0 L).drop (readText (rest0 L) 63).2.1 = l1 at *
          generalize (false || decide ((readText (rest0 L) 63).2.2 ≠ 0)) = b1 at *
          have HR1 := Aside0.mk hrd
          have HZ1 := Aside0.mk (hkp.blk HZ0.out (Ne.symm (Nat.ne_of_gt hs2)) (by simp))
          have C11 := Aside0.mk hc46
          have hz0 := hkp.1
          clear hrd hkp hc46 hle46
          refine hK1.out _ _ trivial (fun hW => ?_)
          try simp only [Act.put, List.setIfInBounds_toArray, List.set_cons_zero, List.set_cons_succ]
          refine wpAnyH_mono (S' := fun w' => C8 w' A46 s1.size (bytesOf s1)) (fun _ _ => trivial) ?_
          refine wpAnyH_take (i := 2) (oi := ⟨some 47, _, _, _, _, _⟩) (v := .string s1) rfl (by kernel_rfl) (by kernel_rfl) (by kernel_rfl) (fun _ _ _ h => h) (.inl ⟨by rfl, fun W1 h1 => by (have x1 := Kd.C_string (c := c46) (P := Try.prog) Try.underlying31 Try.underlying5 Try.underlying9 h1; rw [str_bytes] at x1); go_simp⟩) C11.out ?_
          try simp only [Act.put, List.setIfInBounds_toArray, List.set_cons_zero, List.set_cons_succ]
          refine wpAnyH_ready (rs := [4, 7]) (by kernel_rfl) (by simp) (AllReadyH.cons rfl (fun K3 hK3 => ?_) (AllReadyH.cons rfl (fun K4 hK4 => ?_) AllReadyH.nil))
          · go_simp
            refine (textT_calls 63 (by decide) readText_63 w g l1 b1 Wa0 HR1.out).mono ?_
            rintro e Wa1 ⟨A49, c49, fr49, rfl, hc49, hle49, hrd, hkp⟩
            generalize (readText l1 63).1 = s2 at *
            generalize l1.drop (readText l1 63).2.1 = l2 at *
            generalize (b1 || decide ((readText l1 63).2.2 ≠ 0)) = b2 at *
            have HR2 := Aside0.mk hrd
            have HZ2 := Aside0.mk (hkp.blk HZ1.out (Ne.symm (Nat.ne_of_gt hs2)) (by simp))
            have C42 := Aside0.mk hc49
            have C12 := Aside0.mk (C8_moves C11.out fun ad e => hkp.2 _ (Nat.lt_of_lt_of_le (fr46 ad e).2 (by omega)) (by have := (fr46 ad e).1; omega) (by simp))
            have hz1 := hkp.1
            clear hrd hkp hc49 hle49
            refine hK3.out _ _ C12.out (fun hW => ?_)
            try simp only [Act.put, List.setIfInBounds_toArray, List.set_cons_zero, List.set_cons_succ]
            refine wpAnyH_mono (S' := fun w' => C8 w' A46 s1.size (bytesOf s1) ∧ C8 w' A49 s2.size (bytesOf s2)) (fun _ h => h.1) ?_
            refine wpAnyH_take (i := 5) (oi := ⟨some 50, _, _, _, _, _⟩) (v := .string s2) rfl (by kernel_rfl) (by kernel_rfl) (by kernel_rfl) (fun _ _ _ h => h) (.inl ⟨by rfl, fun W1 h1 => by (have x1 := Kd.C_string (c := c49) (P := Try.prog) Try.underlying31 Try.underlying5 Try.underlying9 h1.2; rw [str_bytes] at x1); go_simp⟩) ⟨C12.out, C42.out⟩ ?_
            try simp only [Act.put, List.setIfInBounds_toArray, List.set_cons_zero, List.set_cons_succ]
            refine wpAnyH_take (i := 6) (oi := ⟨some 51, _, _, _, _, _⟩) (v := .agg #[.string s1, .string s2, .slice none 0 0]) rfl (by kernel_rfl) (by kernel_rfl) (by kernel_rfl) (fun _ _ _ h => h) (.inl ⟨by rfl, fun W1 h1 => by go_simp⟩) ⟨C12.out, C42.out⟩ ?_
            try simp only [Act.put, List.setIfInBounds_toArray, List.set_cons_zero, List.set_cons_succ]
            refine wpAnyH_ready (rs := [7]) (by kernel_rfl) (by simp) (AllReadyH.cons rfl (fun K5 hK5 => ?_) AllReadyH.nil)
            refine wp_alloc79 (o := ⟨some 9, _, _, _, _, _⟩) rfl ?_
            have hb2 := below_alloc (Below.refl Wa1.heap.size Wa1) (.cells Z79 79)
            have HR3 := Aside0.mk (HR2.out.on hb2)
            have HZ3 := Aside0.mk (blk_below HZ2.out hb2)
            have HX3 := Aside0.mk (blk_new Wa1 (.cells Z79 79))
            have hz2 := hb2.size
            have hzg : Wa1.heap.size < (Wa1.alloc (.cells Z79 79)).heap.size := by simp
            have C13 := Aside0.mk (Kd.C_below C12.out hb2)
            have C43 := Aside0.mk (Kd.C_below C42.out hb2)
            refine hK5.out _ _ ⟨C13.out, C43.out⟩ (fun hW => ?_)
            try simp only [Act.put, List.setIfInBounds_toArray, List.set_cons_zero, List.set_cons_succ]
            clear hb2
            generalize hWn2 : Wa1.alloc (.cells Z79 79) = Wa2 at *
            clear hWn2
            have hgx : g < Wa1.heap.size := by omega
            refine wpAnyH_ready (rs := [8]) (by kernel_rfl) (by simp) (AllReadyH.cons rfl (fun K6 hK6 => ?_) AllReadyH.nil)
            refine wp_store_row (o := ⟨none, _, _, _, _, _⟩) 79 (.tmp 9) (.tmp 51) rfl Wa1.heap.size #[.string s1, .string s2, .slice none 0 0] rfl rfl 79 Z79 HX3.out (i79 _ _ _) rfl (a86 _ _ _ _ _) ?_
            have hz46 : ∀ ad, A46 = some ad → ad.block ≠ Wa1.heap.size := fun ad e => by have := fr46 ad e; omega
            have hz49 : ∀ ad, A49 = some ad → ad.block ≠ Wa1.heap.size := fun ad e => by have := fr49 ad e; omega
            refine hK6.out _ _ ⟨C8_moves C13.out fun ad e => setRow_other _ _ _ _ (hz46 ad e), C8_moves C43.out fun ad e => setRow_other _ _ _ _ (hz49 ad e)⟩ (fun hW => ?_)
            try simp only [Act.put, List.setIfInBounds_toArray, List.set_cons_zero, List.set_cons_succ]
            refine wpAnyH_done (by kernel_rfl) ?_ _
            have HU := Aside0.mk (⟨HR3.out.keep (below_setRow HR3.out.below (by omega) _) (setRow_other _ _ _ _ (by omega)), setRow_heap _ _ _ _ 79 _ HX3.out, (setRow_other _ _ _ _ (by omega)).trans HZ3.out, by omega, by omega, by omega, by omega, Kd.R_nil _ _ _ _ _, rfl, fun i hi => absurd hi (Nat.not_lt_zero _), fun i hi => absurd hi (Nat.not_lt_zero _)⟩ : IU w g Wa1.heap.size l2 b2 s1 s2 (.slice none 0 0) [] [] (Wa2.setRow Wa1.heap.size #[.string s1, .string s2, .slice none 0 0]))
            clear hz46 hz49 hW fr46 fr49 hgx
            generalize Wa1.heap.size = gx at *
            generalize Wa2.setRow gx #[.string s1, .string s2, .slice none 0 0] = Wz at *
            go_wp2_with fail
            refine (numT_calls 65536 (by decide) w g l2 b2 Wz HU.out.rd).mono ?_
            rintro e Wn ⟨rfl, hrd, hkp⟩
            have hnb := numR_le l2 HU.out.rd.byt
            have HU2 := Aside0.mk (HU.out.keep hrd hkp)
            clear hrd hkp HU
            generalize (if badN l2 65536 = true then 0 else (readShort l2).1) = nn at *
            generalize (if badN l2 65536 = true then l2 else l2.drop (readShort l2).2.1) = l3 at *
            generalize (b2 || badN l2 65536) = b3 at *
            obtain ⟨N, rfl⟩ : ∃ N : Nat, nn = (N : Int) := ⟨nn.toNat, by omega⟩
            rw [Int.toNat_natCast] at HST
            have hcon : Try.prog.concrete 41 = true := by kernel_rfl
            go_wp2
            go_loopw [54] (fun v54 wr => ∃ (j : Nat) (cs : List Chg) (sl : List Sl) (vL : Value) (l : List Int) (bad : Bool), v54 = .int .i64 (j : Int) ∧ j ≤ N ∧ Aside0 (Inv L s1 s2 N j cs l bad) ∧ Aside0 (IU w g gx l bad s1 s2 vL cs sl wr)) (fun v _ => N - (intOf v).toNat)
            case atStart => exact ⟨0, [], [], .slice none 0 0, l3, b3, rfl, Nat.zero_le _, HST, HU2⟩
            case round =>
              obtain ⟨j, cs, sl, vL, l, bad, rfl, hj, HI, HU⟩ := hrel
              clear HST HU2
              obtain ⟨Ar, cr, hCr, hlr, hgr⟩ := HU.out.rd.blk
              have HGR := Aside0.mk hgr
              clear hCr hlr hgr
              cases bad with
              | true =>
                have HNO := Aside0.mk (inv_bad HI.out)
                have xg : wr.cell? ⟨g, 1, none⟩ = some (.iface 41 (.int .i64 11)) := by rw [cell_of_row _ _ 1 _ 149 (0, 0) HGR.out]; rfl
                have hq : ∀ W : World, (binOp .neq 147 (.iface 41 (.int .i64 11)) .nilIface).run Try.prog W = .ok (.bool true) W := fun W => by kernel_rfl
                by_cases hlt : j < N
                · have dj : decide ((j : Int) < (N : Int)) = true := decide_eq_true (by omega)
                  go_wp2_with fail
                  refine (is_form wr).mono ?_
                  rintro e w' ⟨rfl, rfl⟩
                  go_wp2_with (refine wpList_store_same rfl 79 (.tmp 2) (.tmp 83) rfl w.heap.size Z79 rfl rfl 79 HU.out.h2 (i79 _ _ _) a86Z ?_)
                  refine bodyPost_ret (res_ct (p := 2) (q := 3) _ rfl rfl HU.out.h2 StmP.u79 rfl (i79 _ _ _)) rfl ?_
                  rw [HP.out]
                  exact ⟨HU.out.rd.below, .inr (.inr (.inl ⟨by rw [← HN.out]; omega, HOK2.out, HNO.out, rfl⟩))⟩
                · have dj : decide ((j : Int) < (N : Int)) = false := decide_eq_false (by omega)
                  go_wp2_with fail
                  refine (is_form wr).mono ?_
                  rintro e w' ⟨rfl, rfl⟩
                  go_wp2_with (refine wpList_store_same rfl 79 (.tmp 2) (.tmp 83) rfl w.heap.size Z79 rfl rfl 79 HU.out.h2 (i79 _ _ _) a86Z ?_)
                  refine bodyPost_ret (res_ct (p := 2) (q := 3) _ rfl rfl HU.out.h2 StmP.u79 rfl (i79 _ _ _)) rfl ?_
                  rw [HP.out]
                  exact ⟨HU.out.rd.below, .inr (.inr (.inl ⟨by rw [← HN.out]; omega, HOK2.out, HNO.out, rfl⟩))⟩
              | false =>
                have xg : wr.cell? ⟨g, 1, none⟩ = some .nilIface := by rw [cell_of_row _ _ 1 _ 149 (0, 0) HGR.out]; rfl
                have hq : ∀ W : World, (binOp .neq 147 .nilIface .nilIface).run Try.prog W = .ok (.bool false) W := fun W => by kernel_rfl
                by_cases hlt : j < N
                · have dj : decide ((j : Int) < (N : Int)) = true := decide_eq_true (by omega)
                  go_wp2
                  clear xg hq
                  have HUd := Aside0.mk (HU.out.on (below_drew (Below.refl wr.heap.size wr)))
                  clear HU
                  refine wp_region_held_drew (S := fun _ => True) (by kernel_rfl) trivial (fun _ => ?_)
                  generalize hWr : wr.drew = Wr at *
                  clear hWr
                  refine wpAnyH_take (i := 0) (oi := ⟨some 61, _, _, _, _, _⟩) (v := .pointer (some ⟨gx, 2, none⟩)) rfl (by kernel_rfl) (by kernel_rfl) (by kernel_rfl) (fun _ _ _ h => h) (.inl ⟨by rfl, fun W1 h1 => by go_simp⟩) trivial ?_
                  try simp only [Act.put, List.setIfInBounds_toArray, List.set_cons_zero, List.set_cons_succ]
                  refine wpAnyH_take (i := 2) (oi := ⟨some 63, _, _, _, _, _⟩) (v := .pointer (some ⟨g, 0, none⟩)) rfl (by kernel_rfl) (by kernel_rfl) (by kernel_rfl) (fun _ _ _ h => h) (.inl ⟨by rfl, fun W1 h1 => by go_simp⟩) trivial ?_
                  try simp only [Act.put, List.setIfInBounds_toArray, List.set_cons_zero, List.set_cons_succ]
                  refine wpAnyH_ready (rs := [1, 3]) (by kernel_rfl) (by simp) (AllReadyH.cons rfl (fun J1 hJ1 => ?_) (AllReadyH.cons rfl (fun J2 hJ2 => ?_) AllReadyH.nil))
                  · have xl : Wr.cell? ⟨gx, 2, none⟩ = some vL := by rw [cell_of_row _ _ 2 _ 79 (0, 0) HUd.out.hx]; rfl
                    go_simp
                    refine hJ1.out _ _ trivial (fun _ => ?_)
                    try simp only [Act.put, List.setIfInBounds_toArray, List.set_cons_zero, List.set_cons_succ]
                    clear xl
                    refine wpAnyH_ready (rs := [3]) (by kernel_rfl) (by simp) (AllReadyH.cons rfl (fun J3 hJ3 => ?_) AllReadyH.nil)
                    go_simp
                    refine (change_calls w g l false Wr HUd.out.rd).mono ?_
                    rintro e W1 ⟨A1, n1, c1, A2, n2, c2, A3, n3, c3, f1, f2, f3, rfl, hca, hrd, hkp⟩
                    have HUe := Aside0.mk (HUd.out.keep hrd hkp)
                    have HP1 := Aside0.mk (show Sl.ca W1 ⟨A1, n1, c1, A2, n2, c2, A3, n3, c3, (chgR l false).1.gone⟩ (chgR l false).1 from ⟨hca, rfl⟩)
                    have HF1 := Aside0.mk (show FarP w g gx vL.ownBlock W1 ⟨A1, n1, c1, A2, n2, c2, A3, n3, c3, (chgR l false).1.gone⟩ from fun ad e => by
                      have hb : Wr.heap.size ≤ ad.block ∧ ad.block < W1.heap.size := by
                        rcases e with e | e | e
                        · exact f1 ad e
                        · exact f2 ad e
                        · exact f3 ad e
                      have q1 := HUd.out.rd.lt
                      have q2 := blk_lt HUd.out.hx
                      have q3 := blk_lt HUd.out.h2
                      have q4 := Kd.R_lt HUd.out.row
                      refine ⟨by omega, by omega, by omega, fun he => ?_, hb.2⟩
                      have := q4 _ he.symm
                      omega)
                    clear hca hrd hkp f1 f2 f3
                    refine hJ3.out _ _ trivial (fun _ => ?_)
                    try simp only [Act.put, List.setIfInBounds_toArray, List.set_cons_zero, List.set_cons_succ]
                    refine wpAnyH_ready (rs := [4]) (by kernel_rfl) (by simp) (AllReadyH.cons rfl (fun J4 hJ4 => ?_) AllReadyH.nil)
                    refine wp_one_S (o := ⟨some 65, _, _, _, _, _⟩) (.tmp 64) rfl ⟨A1, n1, c1, A2, n2, c2, A3, n3, c3, (chgR l false).1.gone⟩ rfl ?_
                    refine hJ4.out _ _ trivial (fun _ => ?_)
                    try simp only [Act.put, List.setIfInBounds_toArray, List.set_cons_zero, List.set_cons_succ]
                    refine wpAnyH_ready (rs := [5]) (by kernel_rfl) (by simp) (AllReadyH.cons rfl (fun J5 hJ5 => ?_) AllReadyH.nil)
                    refine wp_append_S (o := ⟨some 66, _, _, _, _, _⟩) (w0 := w) w.heap.size (.tmp 62) (.tmp 65) rfl vL sl ⟨A1, n1, c1, A2, n2, c2, A3, n3, c3, (chgR l false).1.gone⟩ rfl rfl HUe.out.row HUe.out.rd.below HUe.out.rd.below.size (by have := HUe.out.len; have := HI.out.len; omega) ?_
                    intro v9 w9 hr9 hb9 hg9 ho9
                    have HU9 := Aside0.mk (HUe.out.push HP1.out HF1.out hr9 hb9 hg9 ho9)
                    have e9 := blk_grown HUe.out.hx hg9 (Kd.R_ne HUe.out.row HUe.out.hx (by decide))
                    have x9 : w9.cell? ⟨gx, 2, none⟩ = some vL := by rw [cell_of_row _ _ 2 _ 79 (0, 0) e9]; rfl
                    have f9 := frozen_of_row w9 gx 2 _ 79 e9
                    obtain ⟨A9, c9, hv9⟩ := Kd.R_slice hr9
                    generalize (sl ++ [_]).length = n9 at hv9
                    subst hv9
                    clear hr9 hb9 hg9 ho9 e9
                    refine hJ5.out _ _ trivial (fun _ => ?_)
                    try simp only [Act.put, List.setIfInBounds_toArray, List.set_cons_zero, List.set_cons_succ]
                    refine wpAnyH_take (i := 6) (oi := ⟨some 67, _, _, _, _, _⟩) (v := .pointer (some ⟨gx, 2, none⟩)) rfl (by kernel_rfl) (by kernel_rfl) (by kernel_rfl) (fun _ _ _ h => h) (.inl ⟨by rfl, fun W1 h1 => by go_simp⟩) trivial ?_
                    try simp only [Act.put, List.setIfInBounds_toArray, List.set_cons_zero, List.set_cons_succ]
                    refine wpAnyH_ready (rs := [7]) (by kernel_rfl) (by simp) (AllReadyH.cons rfl (fun J6 hJ6 => ?_) AllReadyH.nil)
                    go_simp
                    refine hJ6.out _ _ trivial (fun _ => ?_)
                    try simp only [Act.put, List.setIfInBounds_toArray, List.set_cons_zero, List.set_cons_succ]
                    refine wpAnyH_done (by kernel_rfl) ?_ _
                    clear x9 f9
                    go_wp2
                    go_roundw
                    case rel => exact ⟨j + 1, _, _, _, _, _, by go_num, by omega, ⟨inv_step HI.out hlt⟩, HU9⟩
                    case measure => simp [intOf]; omega
                  · go_simp
                    refine (change_calls w g l false Wr HUd.out.rd).mono ?_
                    rintro e W1 ⟨A1, n1, c1, A2, n2, c2, A3, n3, c3, f1, f2, f3, rfl, hca, hrd, hkp⟩
                    have HUe := Aside0.mk (HUd.out.keep hrd hkp)
                    have HP1 := Aside0.mk (show Sl.ca W1 ⟨A1, n1, c1, A2, n2, c2, A3, n3, c3, (chgR l false).1.gone⟩ (chgR l false).1 from ⟨hca, rfl⟩)
                    have HF1 := Aside0.mk (show FarP w g gx vL.ownBlock W1 ⟨A1, n1, c1, A2, n2, c2, A3, n3, c3, (chgR l false).1.gone⟩ from fun ad e => by
                      have hb : Wr.heap.size ≤ ad.block ∧ ad.block < W1.heap.size := by
                        rcases e with e | e | e
                        · exact f1 ad e
                        · exact f2 ad e
                        · exact f3 ad e
                      have q1 := HUd.out.rd.lt
                      have q2 := blk_lt HUd.out.hx
                      have q3 := blk_lt HUd.out.h2
                      have q4 := Kd.R_lt HUd.out.row
                      refine ⟨by omega, by omega, by omega, fun he => ?_, hb.2⟩
                      have := q4 _ he.symm
                      omega)
                    clear hca hrd hkp f1 f2 f3
                    refine hJ2.out _ _ trivial (fun _ => ?_)
                    try simp only [Act.put, List.setIfInBounds_toArray, List.set_cons_zero, List.set_cons_succ]
                    refine wpAnyH_ready (rs := [1, 4]) (by kernel_rfl) (by simp) (AllReadyH.cons rfl (fun J3 hJ3 => ?_) (AllReadyH.cons rfl (fun J4 hJ4 => ?_) AllReadyH.nil))
                    · have xl : W1.cell? ⟨gx, 2, none⟩ = some vL := by rw [cell_of_row _ _ 2 _ 79 (0, 0) HUe.out.hx]; rfl
                      go_simp
                      refine hJ3.out _ _ trivial (fun _ => ?_)
                      try simp only [Act.put, List.setIfInBounds_toArray, List.set_cons_zero, List.set_cons_succ]
                      clear xl
                      refine wpAnyH_ready (rs := [4]) (by kernel_rfl) (by simp) (AllReadyH.cons rfl (fun J7 hJ7 => ?_) AllReadyH.nil)
                      refine wp_one_S (o := ⟨some 65, _, _, _, _, _⟩) (.tmp 64) rfl ⟨A1, n1, c1, A2, n2, c2, A3, n3, c3, (chgR l false).1.gone⟩ rfl ?_
                      refine hJ7.out _ _ trivial (fun _ => ?_)
                      try simp only [Act.put, List.setIfInBounds_toArray, List.set_cons_zero, List.set_cons_succ]
                      refine wpAnyH_ready (rs := [5]) (by kernel_rfl) (by simp) (AllReadyH.cons rfl (fun J5 hJ5 => ?_) AllReadyH.nil)
                      refine wp_append_S (o := ⟨some 66, _, _, _, _, _⟩) (w0 := w) w.heap.size (.tmp 62) (.tmp 65) rfl vL sl ⟨A1, n1, c1, A2, n2, c2, A3, n3, c3, (chgR l false).1.gone⟩ rfl rfl HUe.out.row HUe.out.rd.below HUe.out.rd.below.size (by have := HUe.out.len; have := HI.out.len; omega) ?_
                      intro v9 w9 hr9 hb9 hg9 ho9
                      have HU9 := Aside0.mk (HUe.out.push HP1.out HF1.out hr9 hb9 hg9 ho9)
                      have e9 := blk_grown HUe.out.hx hg9 (Kd.R_ne HUe.out.row HUe.out.hx (by decide))
                      have x9 : w9.cell? ⟨gx, 2, none⟩ = some vL := by rw [cell_of_row _ _ 2 _ 79 (0, 0) e9]; rfl
                      have f9 := frozen_of_row w9 gx 2 _ 79 e9
                      obtain ⟨A9, c9, hv9⟩ := Kd.R_slice hr9
                      generalize (sl ++ [_]).length = n9 at hv9
                      subst hv9
                      clear hr9 hb9 hg9 ho9 e9
                      refine hJ5.out _ _ trivial (fun _ => ?_)
                      try simp only [Act.put, List.setIfInBounds_toArray, List.set_cons_zero, List.set_cons_succ]
                      refine wpAnyH_take (i := 6) (oi := ⟨some 67, _, _, _, _, _⟩) (v := .pointer (some ⟨gx, 2, none⟩)) rfl (by kernel_rfl) (by kernel_rfl) (by kernel_rfl) (fun _ _ _ h => h) (.inl ⟨by rfl, fun W1 h1 => by go_simp⟩) trivial ?_
                      try simp only [Act.put, List.setIfInBounds_toArray, List.set_cons_zero, List.set_cons_succ]
                      refine wpAnyH_ready (rs := [7]) (by kernel_rfl) (by simp) (AllReadyH.cons rfl (fun J6 hJ6 => ?_) AllReadyH.nil)
                      go_simp
                      refine hJ6.out _ _ trivial (fun _ => ?_)
                      try simp only [Act.put, List.setIfInBounds_toArray, List.set_cons_zero, List.set_cons_succ]
                      refine wpAnyH_done (by kernel_rfl) ?_ _
                      clear x9 f9
                      go_wp2
                      go_roundw
                      case rel => exact ⟨j + 1, _, _, _, _, _, by go_num, by omega, ⟨inv_step HI.out hlt⟩, HU9⟩
                      case measure => simp [intOf]; omega
                    · refine wp_one_S (o := ⟨some 65, _, _, _, _, _⟩) (.tmp 64) rfl ⟨A1, n1, c1, A2, n2, c2, A3, n3, c3, (chgR l false).1.gone⟩ rfl ?_
                      refine hJ4.out _ _ trivial (fun _ => ?_)
                      try simp only [Act.put, List.setIfInBounds_toArray, List.set_cons_zero, List.set_cons_succ]
                      refine wpAnyH_ready (rs := [1]) (by kernel_rfl) (by simp) (AllReadyH.cons rfl (fun J7 hJ7 => ?_) AllReadyH.nil)
                      have xl : (W1.alloc (.cells (encS ⟨A1, n1, c1, A2, n2, c2, A3, n3, c3, (chgR l false).1.gone⟩) 133)).cell? ⟨gx, 2, none⟩ = some vL := by rw [cell_of_row _ _ 2 _ 79 (0, 0) (blk_alloc HUe.out.hx _)]; rfl
                      go_simp
                      refine hJ7.out _ _ trivial (fun _ => ?_)
                      try simp only [Act.put, List.setIfInBounds_toArray, List.set_cons_zero, List.set_cons_succ]
                      clear xl
                      refine wpAnyH_ready (rs := [5]) (by kernel_rfl) (by simp) (AllReadyH.cons rfl (fun J5 hJ5 => ?_) AllReadyH.nil)
                      refine wp_append_S (o := ⟨some 66, _, _, _, _, _⟩) (w0 := w) w.heap.size (.tmp 62) (.tmp 65) rfl vL sl ⟨A1, n1, c1, A2, n2, c2, A3, n3, c3, (chgR l false).1.gone⟩ rfl rfl HUe.out.row HUe.out.rd.below HUe.out.rd.below.size (by have := HUe.out.len; have := HI.out.len; omega) ?_
                      intro v9 w9 hr9 hb9 hg9 ho9
                      have HU9 := Aside0.mk (HUe.out.push HP1.out HF1.out hr9 hb9 hg9 ho9)
                      have e9 := blk_grown HUe.out.hx hg9 (Kd.R_ne HUe.out.row HUe.out.hx (by decide))
                      have x9 : w9.cell? ⟨gx, 2, none⟩ = some vL := by rw [cell_of_row _ _ 2 _ 79 (0, 0) e9]; rfl
                      have f9 := frozen_of_row w9 gx 2 _ 79 e9
                      obtain ⟨A9, c9, hv9⟩ := Kd.R_slice hr9
                      generalize (sl ++ [_]).length = n9 at hv9
                      subst hv9
                      clear hr9 hb9 hg9 ho9 e9
                      refine hJ5.out _ _ trivial (fun _ => ?_)
                      try simp only [Act.put, List.setIfInBounds_toArray, List.set_cons_zero, List.set_cons_succ]
                      refine wpAnyH_take (i := 6) (oi := ⟨some 67, _, _, _, _, _⟩) (v := .pointer (some ⟨gx, 2, none⟩)) rfl (by kernel_rfl) (by kernel_rfl) (by kernel_rfl) (fun _ _ _ h => h) (.inl ⟨by rfl, fun W1 h1 => by go_simp⟩) trivial ?_
                      try simp only [Act.put, List.setIfInBounds_toArray, List.set_cons_zero, List.set_cons_succ]
                      refine wpAnyH_ready (rs := [7]) (by kernel_rfl) (by simp) (AllReadyH.cons rfl (fun J6 hJ6 => ?_) AllReadyH.nil)
                      go_simp
                      refine hJ6.out _ _ trivial (fun _ => ?_)
                      try simp only [Act.put, List.setIfInBounds_toArray, List.set_cons_zero, List.set_cons_succ]
                      refine wpAnyH_done (by kernel_rfl) ?_ _
                      clear x9 f9
                      go_wp2
                      go_roundw
                      case rel => exact ⟨j + 1, _, _, _, _, _, by go_num, by omega, ⟨inv_step HI.out hlt⟩, HU9⟩
                      case measure => simp [intOf]; omega
                · obtain rfl : j = N := by omega
                  have dj : decide ((j : Int) < (j : Int)) = false := decide_eq_false (by omega)
                  have xg0 : wr.cell? ⟨g, 0, none⟩ = some (.slice Ar l.length cr) := by rw [cell_of_row _ _ 0 _ 149 (0, 0) HGR.out]; rfl
                  go_wp2_with fail
                  refine (is_nil wr).mono ?_
                  rintro e w' ⟨rfl, rfl⟩
                  by_cases hl : l = []
                  · subst hl
                    have hcl : cs.length ≤ 9000 ∧ wtL cs ≤ 10000 := by have := HI.out.wt rfl; have := wtL_len cs; have := HN.out; omega
                    obtain ⟨AL, cL, rfl, hcr⟩ := HU.out.cr
                    have HEND := Aside0.mk (inv_end HI.out)
                    obtain ⟨X, hX⟩ : ∃ X : Stm, X = ⟨s1, s2, cs⟩ := ⟨_, rfl⟩
                    have HX := Aside0.mk hX
                    have HPUT := Aside0.mk (show Calls Try.prog 46 #[.agg #[.string s1, .string s2, .slice AL cs.length cL]] w' (TellsPutS w' (.int .i64) X) by
                      rw [hX]; exact put_calls ⟨s1, s2, cs⟩ AL cL cs.length sl w' hcr hcl.1 (fun _ => hcl.2))
                    rw [← hX] at HEND
                    clear hcr hX
                    have x0 : w'.cell? ⟨gx, 0, none⟩ = some (.string s1) := by rw [cell_of_row _ _ 0 _ 79 (0, 0) HU.out.hx]; rfl
                    have x1 : w'.cell? ⟨gx, 1, none⟩ = some (.string s2) := by rw [cell_of_row _ _ 1 _ 79 (0, 0) HU.out.hx]; rfl
                    have x2 : w'.cell? ⟨gx, 2, none⟩ = some (.slice AL cs.length cL) := by rw [cell_of_row _ _ 2 _ 79 (0, 0) HU.out.hx]; rfl
                    go_wp2_with fail
                    clear x0 x1 x2 xg xg0 hq
                    refine HPUT.out.mono ?_
                    rintro e w7 ⟨v7, rfl, hr7, hb7⟩
                    have H7 := Aside0.mk (HU.out.on hb7)
                    obtain ⟨A7, c7, rfl, hle7, hC7⟩ := Kd.R_reads hr7
                    have t1 := Kd.C_string (P := Try.prog) (c := c7) Try.underlying31 Try.underlying5 Try.underlying9 hC7
                    have t2 : (convert 31 9 (.slice A (k + 4) c)).run Try.prog w7 = .ok (.string (strOfNums L)) w7 := by
                      rw [← hk]
                      exact Kd.C_string (P := Try.prog) Try.underlying31 Try.underlying5 Try.underlying9 (Kd.C_below HC.out.1 H7.out.rd.below)
                    clear hr7 hb7 hle7 hC7 HU HPUT
                    cases hrb : StmI.rightB X with
                    | false =>
                      have HR := Aside0.mk hrb
                      rw [show codeS X = 2 by rw [codeS, hrb]; rfl]
                      generalize outS X = oX at *
                      have HNO := Aside0.mk (show NoS L from fun y hy hL => by
                        have := HEND.out y hy hL
                        rw [this] at hy
                        have h2 := rightB_true hy
                        rw [hrb] at h2
                        cases h2)
                      clear hrb t1 t2
                      go_wp2_with (refine wpList_store_same rfl 79 (.tmp 2) (.tmp 98) rfl w.heap.size Z79 rfl rfl 79 H7.out.h2 (i79 _ _ _) a86Z ?_)
                      refine bodyPost_ret (res_ct (p := 2) (q := 3) _ rfl rfl H7.out.h2 StmP.u79 rfl (i79 _ _ _)) rfl ?_
                      rw [HP.out]
                      exact ⟨H7.out.rd.below, .inr (.inr (.inl ⟨by rw [← HN.out]; omega, HOK2.out, HNO.out, rfl⟩))⟩
                    | true =>
                      have HR : Aside0 (RightS X) := ⟨by unfold StmI.rightB at hrb; simpa using hrb⟩
                      rw [show codeS X = 0 by rw [codeS, hrb]; rfl]
                      have eo : outS X = stmL X := by rw [outS, hrb]; rfl
                      rw [eo] at t1 ⊢
                      have hS := CatV.str_iff (stmL X) L (stmL_byt X) HC.out.2.1
                      clear hrb eo
                      generalize hlo : (stmL X).length = lo at *
                      generalize strOfNums (stmL X) = S5 at *
                      generalize strOfNums L = SL at *
                      by_cases heq : stmL X = L
                      · rw [decide_eq_true heq] at hS
                        have HEQ := Aside0.mk heq
                        clear heq hlo
                        have x0 : w7.cell? ⟨gx, 0, none⟩ = some (.string s1) := by rw [cell_of_row _ _ 0 _ 79 (0, 0) H7.out.hx]; rfl
                        have x1 : w7.cell? ⟨gx, 1, none⟩ = some (.string s2) := by rw [cell_of_row _ _ 1 _ 79 (0, 0) H7.out.hx]; rfl
                        have x2 : w7.cell? ⟨gx, 2, none⟩ = some (.slice AL cs.length cL) := by rw [cell_of_row _ _ 2 _ 79 (0, 0) H7.out.hx]; rfl
                        go_wp2_with (refine wpList_store_row rfl 79 (.tmp 2) (.tmp 99) rfl w.heap.size #[.string s1, .string s2, .slice AL cs.length cL] rfl rfl 79 Z79 H7.out.h2 (i79 _ _ _) rfl (a86 _ _ _ _ _) ?_)
                        refine bodyPost_ret (res_ct (p := 2) (q := 3) _ rfl rfl (setRow_heap _ w.heap.size _ #[.string s1, .string s2, .slice AL cs.length cL] 79 _ H7.out.h2) StmP.u79 rfl (i79 _ _ _)) rfl ?_
                        rw [HP.out]
                        refine ⟨below_setRow H7.out.rd.below (Nat.le_refl _) _, .inr (.inr (.inr ⟨X, .slice AL cs.length cL, HR.out, HEQ.out, by rw [HX.out]; rfl, ?_⟩))⟩
                        rw [HX.out]
                        exact H7.out.cell _
                      · rw [decide_eq_false heq] at hS
                        have HNO := Aside0.mk (show NoS L from fun y hy hL => by
                          have := HEND.out y hy hL
                          rw [this] at hL
                          exact heq hL)
                        clear heq hlo
                        go_wp2_with (refine wpList_store_same rfl 79 (.tmp 2) (.tmp 98) rfl w.heap.size Z79 rfl rfl 79 H7.out.h2 (i79 _ _ _) a86Z ?_)
                        refine bodyPost_ret (res_ct (p := 2) (q := 3) _ rfl rfl H7.out.h2 StmP.u79 rfl (i79 _ _ _)) rfl ?_
                        rw [HP.out]
                        exact ⟨H7.out.rd.below, .inr (.inr (.inl ⟨by rw [← HN.out]; omega, HOK2.out, HNO.out, rfl⟩))⟩
                  · have hlp := List.length_pos_iff.2 hl
                    have dl : decide ((0 : Int) < (l.length : Int)) = true := decide_eq_true (by omega)
                    have HNO := Aside0.mk (inv_rest HI.out hl)
                    clear hl
                    go_wp2_with (refine wpList_store_same rfl 79 (.tmp 2) (.tmp 83) rfl w.heap.size Z79 rfl rfl 79 HU.out.h2 (i79 _ _ _) a86Z ?_)
                    refine bodyPost_ret (res_ct (p := 2) (q := 3) _ rfl rfl HU.out.h2 StmP.u79 rfl (i79 _ _ _)) rfl ?_
                    rw [HP.out]
                    exact ⟨HU.out.rd.below, .inr (.inr (.inl ⟨by rw [← HN.out]; omega, HOK2.out, HNO.out, rfl⟩))⟩
          · refine wp_alloc79 (o := ⟨some 9, _, _, _, _, _⟩) rfl ?_
            have hb1 := below_alloc (Below.refl Wa0.heap.size Wa0) (.cells Z79 79)
            have HR2 := Aside0.mk (HR1.out.on hb1)
            have HZ2 := Aside0.mk (blk_below HZ1.out hb1)
            have HX2 := Aside0.mk (blk_new Wa0 (.cells Z79 79))
            have hz1 := hb1.size
            have hzg : Wa0.heap.size < (Wa0.alloc (.cells Z79 79)).heap.size := by simp
            have C12 := Aside0.mk (Kd.C_below C11.out hb1)
            refine hK4.out _ _ C12.out (fun hW => ?_)
            try simp only [Act.put, List.setIfInBounds_toArray, List.set_cons_zero, List.set_cons_succ]
            clear hb1
            generalize hWn1 : Wa0.alloc (.cells Z79 79) = Wa1 at *
            clear hWn1
            have hgx : g < Wa0.heap.size := by omega
            refine wpAnyH_ready (rs := [4]) (by kernel_rfl) (by simp) (AllReadyH.cons rfl (fun K7 hK7 => ?_) AllReadyH.nil)
            go_simp
            refine (textT_calls 63 (by decide) readText_63 w g l1 b1 Wa1 HR2.out).mono ?_
            rintro e Wa2 ⟨A49, c49, fr49, rfl, hc49, hle49, hrd, hkp⟩
            generalize (readText l1 63).1 = s2 at *
            generalize l1.drop (readText l1 63).2.1 = l2 at *
            generalize (b1 || decide ((readText l1 63).2.2 ≠ 0)) = b2 at *
            have HR3 := Aside0.mk hrd
            have HZ3 := Aside0.mk (hkp.blk HZ2.out (Ne.symm (Nat.ne_of_gt hs2)) (by simp))
            have HX3 := Aside0.mk (hkp.blk HX2.out (Nat.ne_of_gt hgx) (by simp))
            have C43 := Aside0.mk hc49
            have C13 := Aside0.mk (C8_moves C12.out fun ad e => hkp.2 _ (Nat.lt_of_lt_of_le (fr46 ad e).2 (by omega)) (by have := (fr46 ad e).1; omega) (by simp))
            have hz2 := hkp.1
            clear hrd hkp hc49 hle49
            refine hK7.out _ _ C13.out (fun hW => ?_)
            try simp only [Act.put, List.setIfInBounds_toArray, List.set_cons_zero, List.set_cons_succ]
            refine wpAnyH_mono (S' := fun w' => C8 w' A46 s1.size (bytesOf s1) ∧ C8 w' A49 s2.size (bytesOf s2)) (fun _ h => h.1) ?_
            refine wpAnyH_take (i := 5) (oi := ⟨some 50, _, _, _, _, _⟩) (v := .string s2) rfl (by kernel_rfl) (by kernel_rfl) (by kernel_rfl) (fun _ _ _ h => h) (.inl ⟨by rfl, fun W1 h1 => by (have x1 := Kd.C_string (c := c49) (P := Try.prog) Try.underlying31 Try.underlying5 Try.underlying9 h1.2; rw [str_bytes] at x1); go_simp⟩) ⟨C13.out, C43.out⟩ ?_
            try simp only [Act.put, List.setIfInBounds_toArray, List.set_cons_zero, List.set_cons_succ]
            refine wpAnyH_take (i := 6) (oi := ⟨some 51, _, _, _, _, _⟩) (v := .agg #[.string s1, .string s2, .slice none 0 0]) rfl (by kernel_rfl) (by kernel_rfl) (by kernel_rfl) (fun _ _ _ h => h) (.inl ⟨by rfl, fun W1 h1 => by go_simp⟩) ⟨C13.out, C43.out⟩ ?_
            try simp only [Act.put, List.setIfInBounds_toArray, List.set_cons_zero, List.set_cons_succ]
            refine wpAnyH_ready (rs := [8]) (by kernel_rfl) (by simp) (AllReadyH.cons rfl (fun K8 hK8 => ?_) AllReadyH.nil)
            refine wp_store_row (o := ⟨none, _, _, _, _, _⟩) 79 (.tmp 9) (.tmp 51) rfl Wa0.heap.size #[.string s1, .string s2, .slice none 0 0] rfl rfl 79 Z79 HX3.out (i79 _ _ _) rfl (a86 _ _ _ _ _) ?_
            have hz46 : ∀ ad, A46 = some ad → ad.block ≠ Wa0.heap.size := fun ad e => by have := fr46 ad e; omega
            have hz49 : ∀ ad, A49 = some ad → ad.block ≠ Wa0.heap.size := fun ad e => by have := fr49 ad e; omega
            refine hK8.out _ _ ⟨C8_moves C13.out fun ad e => setRow_other _ _ _ _ (hz46 ad e), C8_moves C43.out fun ad e => setRow_other _ _ _ _ (hz49 ad e)⟩ (fun hW => ?_)
            try simp only [Act.put, List.setIfInBounds_toArray, List.set_cons_zero, List.set_cons_succ]
            refine wpAnyH_done (by kernel_rfl) ?_ _
            have HU := Aside0.mk (⟨HR3.out.keep (below_setRow HR3.out.below (by omega) _) (setRow_other _ _ _ _ (by omega)), setRow_heap _ _ _ _ 79 _ HX3.out, (setRow_other _ _ _ _ (by omega)).trans HZ3.out, by omega, by omega, by omega, by omega, Kd.R_nil _ _ _ _ _, rfl, fun i hi => absurd hi (Nat.not_lt_zero _), fun i hi => absurd hi (Nat.not_lt_zero _)⟩ : IU w g Wa0.heap.size l2 b2 s1 s2 (.slice none 0 0) [] [] (Wa2.setRow Wa0.heap.size #[.string s1, .string s2, .slice none 0 0]))
            clear hz46 hz49 hW fr46 fr49 hgx
            generalize Wa0.heap.size = gx at *
            generalize Wa2.setRow gx #[.string s1, .string s2, .slice none 0 0] = Wz at *
            go_wp2_with fail
            refine (numT_calls 65536 (by decide) w g l2 b2 Wz HU.out.rd).mono ?_
            rintro e Wn ⟨rfl, hrd, hkp⟩
            have hnb := numR_le l2 HU.out.rd.byt
            have HU2 := Aside0.mk (HU.out.keep hrd hkp)
            clear hrd hkp HU
            generalize (if badN l2 65536 = true then 0 else (readShort l2).1) = nn at *
            generalize (if badN l2 65536 = true then l2 else l2.drop (readShort l2).2.1) = l3 at *
            generalize (b2 || badN l2 65536) = b3 at *
            obtain ⟨N, rfl⟩ : ∃ N : Nat, nn = (N : Int) := ⟨nn.toNat, by omega⟩
            rw [Int.toNat_natCast] at HST
            have hcon : Try.prog.concrete 41 = true := by kernel_rfl
            go_wp2
            go_loopw [54] (fun v54 wr => ∃ (j : Nat) (cs : List Chg) (sl : List Sl) (vL : Value) (l : List Int) (bad : Bool), v54 = .int .i64 (j : Int) ∧ j ≤ N ∧ Aside0 (Inv L s1 s2 N j cs l bad) ∧ Aside0 (IU w g gx l bad s1 s2 vL cs sl wr)) (fun v _ => N - (intOf v).toNat)
            case atStart => exact ⟨0, [], [], .slice none 0 0, l3, b3, rfl, Nat.zero_le _, HST, HU2⟩
            case round =>
              obtain ⟨j, cs, sl, vL, l, bad, rfl, hj, HI, HU⟩ := hrel
              clear HST HU2
              obtain ⟨Ar, cr, hCr, hlr, hgr⟩ := HU.out.rd.blk
              have HGR := Aside0.mk hgr
              clear hCr hlr hgr
              cases bad with
              | true =>
                have HNO := Aside0.mk (inv_bad HI.out)
                have xg : wr.cell? ⟨g, 1, none⟩ = some (.iface 41 (.int .i64 11)) := by rw [cell_of_row _ _ 1 _ 149 (0, 0) HGR.out]; rfl
                have hq : ∀ W : World, (binOp .neq 147 (.iface 41 (.int .i64 11)) .nilIface).run Try.prog W = .ok (.bool true) W := fun W => by kernel_rfl
                by_cases hlt : j < N
                · have dj : decide ((j : Int) < (N : Int)) = true := decide_eq_true (by omega)
                  go_wp2_with fail
                  refine (is_form wr).mono ?_
                  rintro e w' ⟨rfl, rfl⟩
                  go_wp2_with (refine wpList_store_same rfl 79 (.tmp 2) (.tmp 83) rfl w.heap.size Z79 rfl rfl 79 HU.out.h2 (i79 _ _ _) a86Z ?_)
                  refine bodyPost_ret (res_ct (p := 2) (q := 3) _ rfl rfl HU.out.h2 StmP.u79 rfl (i79 _ _ _)) rfl ?_
                  rw [HP.out]
                  exact ⟨HU.out.rd.below, .inr (.inr (.inl ⟨by rw [← HN.out]; omega, HOK2.out, HNO.out, rfl⟩))⟩
                · have dj : decide ((j : Int) < (N : Int)) = false := decide_eq_false (by omega)
                  go_wp2_with fail
                  refine (is_form wr).mono ?_
                  rintro e w' ⟨rfl, rfl⟩
                  go_wp2_with (refine wpList_store_same rfl 79 (.tmp 2) (.tmp 83) rfl w.heap.size Z79 rfl rfl 79 HU.out.h2 (i79 _ _ _) a86Z ?_)
                  refine bodyPost_ret (res_ct (p := 2) (q := 3) _ rfl rfl HU.out.h2 StmP.u79 rfl (i79 _ _ _)) rfl ?_
                  rw [HP.out]
                  exact ⟨HU.out.rd.below, .inr (.inr (.inl ⟨by rw [← HN.out]; omega, HOK2.out, HNO.out, rfl⟩))⟩
              | false =>
                have xg : wr.cell? ⟨g, 1, none⟩ = some .nilIface := by rw [cell_of_row _ _ 1 _ 149 (0, 0) HGR.out]; rfl
                have hq : ∀ W : World, (binOp .neq 147 .nilIface .nilIface).run Try.prog W = .ok (.bool false) W := fun W => by kernel_rfl
                by_cases hlt : j < N
                · have dj : decide ((j : Int) < (N : Int)) = true := decide_eq_true (by omega)
                  go_wp2
                  clear xg hq
                  have HUd := Aside0.mk (HU.out.on (below_drew (Below.refl wr.heap.size wr)))
                  clear HU
                  refine wp_region_held_drew (S := fun _ => True) (by kernel_rfl) trivial (fun _ => ?_)
                  generalize hWr : wr.drew = Wr at *
                  clear hWr
                  refine wpAnyH_take (i := 0) (oi := ⟨some 61, _, _, _, _, _⟩) (v := .pointer (some ⟨gx, 2, none⟩)) rfl (by kernel_rfl) (by kernel_rfl) (by kernel_rfl) (fun _ _ _ h => h) (.inl ⟨by rfl, fun W1 h1 => by go_simp⟩) trivial ?_
                  try simp only [Act.put, List.setIfInBounds_toArray, List.set_cons_zero, List.set_cons_succ]
                  refine wpAnyH_take (i := 2) (oi := ⟨some 63, _, _, _, _, _⟩) (v := .pointer (some ⟨g, 0, none⟩)) rfl (by kernel_rfl) (by kernel_rfl) (by kernel_rfl) (fun _ _ _ h => h) (.inl ⟨by rfl, fun W1 h1 => by go_simp⟩) trivial ?_
                  try simp only [Act.put, List.setIfInBounds_toArray, List.set_cons_zero, List.set_cons_succ]
                  refine wpAnyH_ready (rs := [1, 3]) (by kernel_rfl) (by simp) (AllReadyH.cons rfl (fun J1 hJ1 => ?_) (AllReadyH.cons rfl (fun J2 hJ2 => ?_) AllReadyH.nil))
                  · have xl : Wr.cell? ⟨gx, 2, none⟩ = some vL := by rw [cell_of_row _ _ 2 _ 79 (0, 0) HUd.out.hx]; rfl
                    go_simp
                    refine hJ1.out _ _ trivial (fun _ => ?_)
                    try simp only [Act.put, List.setIfInBounds_toArray, List.set_cons_zero, List.set_cons_succ]
                    clear xl
                    refine wpAnyH_ready (rs := [3]) (by kernel_rfl) (by simp) (AllReadyH.cons rfl (fun J3 hJ3 => ?_) AllReadyH.nil)
                    go_simp
                    refine (change_calls w g l false Wr HUd.out.rd).mono ?_
                    rintro e W1 ⟨A1, n1, c1, A2, n2, c2, A3, n3, c3, f1, f2, f3, rfl, hca, hrd, hkp⟩
                    have HUe := Aside0.mk (HUd.out.keep hrd hkp)
                    have HP1 := Aside0.mk (show Sl.ca W1 ⟨A1, n1, c1, A2, n2, c2, A3, n3, c3, (chgR l false).1.gone⟩ (chgR l false).1 from ⟨hca, rfl⟩)
                    have HF1 := Aside0.mk (show FarP w g gx vL.ownBlock W1 ⟨A1, n1, c1, A2, n2, c2, A3, n3, c3, (chgR l false).1.gone⟩ from fun ad e => by
                      have hb : Wr.heap.size ≤ ad.block ∧ ad.block < W1.heap.size := by
                        rcases e with e | e | e
                        · exact f1 ad e
                        · exact f2 ad e
                        · exact f3 ad e
                      have q1 := HUd.out.rd.lt
                      have q2 := blk_lt HUd.out.hx
                      have q3 := blk_lt HUd.out.h2
                      have q4 := Kd.R_lt HUd.out.row
                      refine ⟨by omega, by omega, by omega, fun he => ?_, hb.2⟩
                      have := q4 _ he.symm
                      omega)
                    clear hca hrd hkp f1 f2 f3
                    refine hJ3.out _ _ trivial (fun _ => ?_)
                    try simp only [Act.put, List.setIfInBounds_toArray, List.set_cons_zero, List.set_cons_succ]
                    refine wpAnyH_ready (rs := [4]) (by kernel_rfl) (by simp) (AllReadyH.cons rfl (fun J4 hJ4 => ?_) AllReadyH.nil)
                    refine wp_one_S (o := ⟨some 65, _, _, _, _, _⟩) (.tmp 64) rfl ⟨A1, n1, c1, A2, n2, c2, A3, n3, c3, (chgR l false).1.gone⟩ rfl ?_
                    refine hJ4.out _ _ trivial (fun _ => ?_)
                    try simp only [Act.put, List.setIfInBounds_toArray, List.set_cons_zero, List.set_cons_succ]
                    refine wpAnyH_ready (rs := [5]) (by kernel_rfl) (by simp) (AllReadyH.cons rfl (fun J5 hJ5 => ?_) AllReadyH.nil)
                    refine wp_append_S (o := ⟨some 66, _, _, _, _, _⟩) (w0 := w) w.heap.size (.tmp 62) (.tmp 65) rfl vL sl ⟨A1, n1, c1, A2, n2, c2, A3, n3, c3, (chgR l false).1.gone⟩ rfl rfl HUe.out.row HUe.out.rd.below HUe.out.rd.below.size (by have := HUe.out.len; have := HI.out.len; omega) ?_
                    intro v9 w9 hr9 hb9 hg9 ho9
                    have HU9 := Aside0.mk (HUe.out.push HP1.out HF1.out hr9 hb9 hg9 ho9)
                    have e9 := blk_grown HUe.out.hx hg9 (Kd.R_ne HUe.out.row HUe.out.hx (by decide))
                    have x9 : w9.cell? ⟨gx, 2, none⟩ = some vL := by rw [cell_of_row _ _ 2 _ 79 (0, 0) e9]; rfl
                    have f9 := frozen_of_row w9 gx 2 _ 79 e9
                    obtain ⟨A9, c9, hv9⟩ := Kd.R_slice hr9
                    generalize (sl ++ [_]).length = n9 at hv9
                    subst hv9
                    clear hr9 hb9 hg9 ho9 e9
                    refine hJ5.out _ _ trivial (fun _ => ?_)
                    try simp only [Act.put, List.setIfInBounds_toArray, List.set_cons_zero, List.set_cons_succ]
                    refine wpAnyH_take (i := 6) (oi := ⟨some 67, _, _, _, _, _⟩) (v := .pointer (some ⟨gx, 2, none⟩)) rfl (by kernel_rfl) (by kernel_rfl) (by kernel_rfl) (fun _ _ _ h => h) (.inl ⟨by rfl, fun W1 h1 => by go_simp⟩) trivial ?_
                    try simp only [Act.put, List.setIfInBounds_toArray, List.set_cons_zero, List.set_cons_succ]
                    refine wpAnyH_ready (rs := [7]) (by kernel_rfl) (by simp) (AllReadyH.cons rfl (fun J6 hJ6 => ?_) AllReadyH.nil)
                    go_simp
                    refine hJ6.out _ _ trivial (fun _ => ?_)
                    try simp only [Act.put, List.setIfInBounds_toArray, List.set_cons_zero, List.set_cons_succ]
                    refine wpAnyH_done (by kernel_rfl) ?_ _
                    clear x9 f9
                    go_wp2
                    go_roundw
                    case rel => exact ⟨j + 1, _, _, _, _, _, by go_num, by omega, ⟨inv_step HI.out hlt⟩, HU9⟩
                    case measure => simp [intOf]; omega
                  · go_simp
                    refine (change_calls w g l false Wr HUd.out.rd).mono ?_
                    rintro e W1 ⟨A1, n1, c1, A2, n2, c2, A3, n3, c3, f1, f2, f3, rfl, hca, hrd, hkp⟩
                    have HUe := Aside0.mk (HUd.out.keep hrd hkp)
                    have HP1 := Aside0.mk (show Sl.ca W1 ⟨A1, n1, c1, A2, n2, c2, A3, n3, c3, (chgR l false).1.gone⟩ (chgR l false).1 from ⟨hca, rfl⟩)
                    have HF1 := Aside0.mk (show FarP w g gx vL.ownBlock W1 ⟨A1, n1, c1, A2, n2, c2, A3, n3, c3, (chgR l false).1.gone⟩ from fun ad e => by
                      have hb : Wr.heap.size ≤ ad.block ∧ ad.block < W1.heap.size := by
                        rcases e with e | e | e
                        · exact f1 ad e
                        · exact f2 ad e
                        · exact f3 ad e
                      have q1 := HUd.out.rd.lt
                      have q2 := blk_lt HUd.out.hx
                      have q3 := blk_lt HUd.out.h2
                      have q4 := Kd.R_lt HUd.out.row
                      refine ⟨by omega, by omega, by omega, fun he => ?_, hb.2⟩
                      have := q4 _ he.symm
                      omega)
                    clear hca hrd hkp f1 f2 f3
                    refine hJ2.out _ _ trivial (fun _ => ?_)
                    try simp only [Act.put, List.setIfInBounds_toArray, List.set_cons_zero, List.set_cons_succ]
                    refine wpAnyH_ready (rs := [1, 4]) (by kernel_rfl) (by simp) (AllReadyH.cons rfl (fun J3 hJ3 => ?_) (AllReadyH.cons rfl (fun J4 hJ4 => ?_) AllReadyH.nil))
                    · have xl : W1.cell? ⟨gx, 2, none⟩ = some vL := by rw [cell_of_row _ _ 2 _ 79 (0, 0) HUe.out.hx]; rfl
                      go_simp
                      refine hJ3.out _ _ trivial (fun _ => ?_)
                      try simp only [Act.put, List.setIfInBounds_toArray, List.set_cons_zero, List.set_cons_succ]
                      clear xl
                      refine wpAnyH_ready (rs := [4]) (by kernel_rfl) (by simp) (AllReadyH.cons rfl (fun J7 hJ7 => ?_) AllReadyH.nil)
                      refine wp_one_S (o := ⟨some 65, _, _, _, _, _⟩) (.tmp 64) rfl ⟨A1, n1, c1, A2, n2, c2, A3, n3, c3, (chgR l false).1.gone⟩ rfl ?_
                      refine hJ7.out _ _ trivial (fun _ => ?_)
                      try simp only [Act.put, List.setIfInBounds_toArray, List.set_cons_zero, List.set_cons_succ]
                      refine wpAnyH_ready (rs := [5]) (by kernel_rfl) (by simp) (AllReadyH.cons rfl (fun J5 hJ5 => ?_) AllReadyH.nil)
                      refine wp_append_S (o := ⟨some 66, _, _, _, _, _⟩) (w0 := w) w.heap.size (.tmp 62) (.tmp 65) rfl vL sl ⟨A1, n1, c1, A2, n2, c2, A3, n3, c3, (chgR l false).1.gone⟩ rfl rfl HUe.out.row HUe.out.rd.below HUe.out.rd.below.size (by have := HUe.out.len; have := HI.out.len; omega) ?_
                      intro v9 w9 hr9 hb9 hg9 ho9
                      have HU9 := Aside0.mk (HUe.out.push HP1.out HF1.out hr9 hb9 hg9 ho9)
                      have e9 := blk_grown HUe.out.hx hg9 (Kd.R_ne HUe.out.row HUe.out.hx (by decide))
                      have x9 : w9.cell? ⟨gx, 2, none⟩ = some vL := by rw [cell_of_row _ _ 2 _ 79 (0, 0) e9]; rfl
                      have f9 := frozen_of_row w9 gx 2 _ 79 e9
                      obtain ⟨A9, c9, hv9⟩ := Kd.R_slice hr9
                      generalize (sl ++ [_]).length = n9 at hv9
                      subst hv9
                      clear hr9 hb9 hg9 ho9 e9
                      refine hJ5.out _ _ trivial (fun _ => ?_)
                      try simp only [Act.put, List.setIfInBounds_toArray, List.set_cons_zero, List.set_cons_succ]
                      refine wpAnyH_take (i := 6) (oi := ⟨some 67, _, _, _, _, _⟩) (v := .pointer (some ⟨gx, 2, none⟩)) rfl (by kernel_rfl) (by kernel_rfl) (by kernel_rfl) (fun _ _ _ h => h) (.inl ⟨by rfl, fun W1 h1 => by go_simp⟩) trivial ?_
                      try simp only [Act.put, List.setIfInBounds_toArray, List.set_cons_zero, List.set_cons_succ]
                      refine wpAnyH_ready (rs := [7]) (by kernel_rfl) (by simp) (AllReadyH.cons rfl (fun J6 hJ6 => ?_) AllReadyH.nil)
                      go_simp
                      refine hJ6.out _ _ trivial (fun _ => ?_)
                      try simp only [Act.put, List.setIfInBounds_toArray, List.set_cons_zero, List.set_cons_succ]
                      refine wpAnyH_done (by kernel_rfl) ?_ _
                      clear x9 f9
                      go_wp2
                      go_roundw
                      case rel => exact ⟨j + 1, _, _, _, _, _, by go_num, by omega, ⟨inv_step HI.out hlt⟩, HU9⟩
                      case measure => simp [intOf]; omega
                    · refine wp_one_S (o := ⟨some 65, _, _, _, _, _⟩) (.tmp 64) rfl ⟨A1, n1, c1, A2, n2, c2, A3, n3, c3, (chgR l false).1.gone⟩ rfl ?_
                      refine hJ4.out _ _ trivial (fun _ => ?_)
                      try simp only [Act.put, List.setIfInBounds_toArray, List.set_cons_zero, List.set_cons_succ]
                      refine wpAnyH_ready (rs := [1]) (by kernel_rfl) (by simp) (AllReadyH.cons rfl (fun J7 hJ7 => ?_) AllReadyH.nil)
                      have xl : (W1.alloc (.cells (encS ⟨A1, n1, c1, A2, n2, c2, A3, n3, c3, (chgR l false).1.gone⟩) 133)).cell? ⟨gx, 2, none⟩ = some vL := by rw [cell_of_row _ _ 2 _ 79 (0, 0) (blk_alloc HUe.out.hx _)]; rfl
                      go_simp
                      refine hJ7.out _ _ trivial (fun _ => ?_)
                      try simp only [Act.put, List.setIfInBounds_toArray, List.set_cons_zero, List.set_cons_succ]
                      clear xl
                      refine wpAnyH_ready (rs := [5]) (by kernel_rfl) (by simp) (AllReadyH.cons rfl (fun J5 hJ5 => ?_) AllReadyH.nil)
                      refine wp_append_S (o := ⟨some 66, _, _, _, _, _⟩) (w0 := w) w.heap.size (.tmp 62) (.tmp 65) rfl vL sl ⟨A1, n1, c1, A2, n2, c2, A3, n3, c3, (chgR l false).1.gone⟩ rfl rfl HUe.out.row HUe.out.rd.below HUe.out.rd.below.size (by have := HUe.out.len; have := HI.out.len; omega) ?_
                      intro v9 w9 hr9 hb9 hg9 ho9
                      have HU9 := Aside0.mk (HUe.out.push HP1.out HF1.out hr9 hb9 hg9 ho9)
                      have e9 := blk_grown HUe.out.hx hg9 (Kd.R_ne HUe.out.row HUe.out.hx (by decide))
                      have x9 : w9.cell? ⟨gx, 2, none⟩ = some vL := by rw [cell_of_row _ _ 2 _ 79 (0, 0) e9]; rfl
                      have f9 := frozen_of_row w9 gx 2 _ 79 e9
                      obtain ⟨A9, c9, hv9⟩ := Kd.R_slice hr9
                      generalize (sl ++ [_]).length = n9 at hv9
                      subst hv9
                      clear hr9 hb9 hg9 ho9 e9
                      refine hJ5.out _ _ trivial (fun _ => ?_)
                      try simp only [Act.put, List.setIfInBounds_toArray, List.set_cons_zero, List.set_cons_succ]
                      refine wpAnyH_take (i := 6) (oi := ⟨some 67, _, _, _, _, _⟩) (v := .pointer (some ⟨gx, 2, none⟩)) rfl (by kernel_rfl) (by kernel_rfl) (by kernel_rfl) (fun _ _ _ h => h) (.inl ⟨by rfl, fun W1 h1 => by go_simp⟩) trivial ?_
                      try simp only [Act.put, List.setIfInBounds_toArray, List.set_cons_zero, List.set_cons_succ]
                      refine wpAnyH_ready (rs := [7]) (by kernel_rfl) (by simp) (AllReadyH.cons rfl (fun J6 hJ6 => ?_) AllReadyH.nil)
                      go_simp
                      refine hJ6.out _ _ trivial (fun _ => ?_)
                      try simp only [Act.put, List.setIfInBounds_toArray, List.set_cons_zero, List.set_cons_succ]
                      refine wpAnyH_done (by kernel_rfl) ?_ _
                      clear x9 f9
                      go_wp2
                      go_roundw
                      case rel => exact ⟨j + 1, _, _, _, _, _, by go_num, by omega, ⟨inv_step HI.out hlt⟩, HU9⟩
                      case measure => simp [intOf]; omega
                · obtain rfl : j = N := by omega
                  have dj : decide ((j : Int) < (j : Int)) = false := decide_eq_false (by omega)
                  have xg0 : wr.cell? ⟨g, 0, none⟩ = some (.slice Ar l.length cr) := by rw [cell_of_row _ _ 0 _ 149 (0, 0) HGR.out]; rfl
                  go_wp2_with fail
                  refine (is_nil wr).mono ?_
                  rintro e w' ⟨rfl, rfl⟩
                  by_cases hl : l = []
                  · subst hl
                    have hcl : cs.length ≤ 9000 ∧ wtL cs ≤ 10000 := by have := HI.out.wt rfl; have := wtL_len cs; have := HN.out; omega
                    obtain ⟨AL, cL, rfl, hcr⟩ := HU.out.cr
                    have HEND := Aside0.mk (inv_end HI.out)
                    obtain ⟨X, hX⟩ : ∃ X : Stm, X = ⟨s1, s2, cs⟩ := ⟨_, rfl⟩
                    have HX := Aside0.mk hX
                    have HPUT := Aside0.mk (show Calls Try.prog 46 #[.agg #[.string s1, .string s2, .slice AL cs.length cL]] w' (TellsPutS w' (.int .i64) X) by
                      rw [hX]; exact put_calls ⟨s1, s2, cs⟩ AL cL cs.length sl w' hcr hcl.1 (fun _ => hcl.2))
                    rw [← hX] at HEND
                    clear hcr hX
                    have x0 : w'.cell? ⟨gx, 0, none⟩ = some (.string s1) := by rw [cell_of_row _ _ 0 _ 79 (0, 0) HU.out.hx]; rfl
                    have x1 : w'.cell? ⟨gx, 1, none⟩ = some (.string s2) := by rw [cell_of_row _ _ 1 _ 79 (0, 0) HU.out.hx]; rfl
                    have x2 : w'.cell? ⟨gx, 2, none⟩ = some (.slice AL cs.length cL) := by rw [cell_of_row _ _ 2 _ 79 (0, 0) HU.out.hx]; rfl
                    go_wp2_with fail
                    clear x0 x1 x2 xg xg0 hq
                    refine HPUT.out.mono ?_
                    rintro e w7 ⟨v7, rfl, hr7, hb7⟩
                    have H7 := Aside0.mk (HU.out.on hb7)
                    obtain ⟨A7, c7, rfl, hle7, hC7⟩ := Kd.R_reads hr7
                    have t1 := Kd.C_string (P := Try.prog) (c := c7) Try.underlying31 Try.underlying5 Try.underlying9 hC7
                    have t2 : (convert 31 9 (.slice A (k + 4) c)).run Try.prog w7 = .ok (.string (strOfNums L)) w7 := by
                      rw [← hk]
                      exact Kd.C_string (P := Try.prog) Try.underlying31 Try.underlying5 Try.underlying9 (Kd.C_below HC.out.1 H7.out.rd.below)
                    clear hr7 hb7 hle7 hC7 HU HPUT
                    cases hrb : StmI.rightB X with
                    | false =>
                      have HR := Aside0.mk hrb
                      rw [show codeS X = 2 by rw [codeS, hrb]; rfl]
                      generalize outS X = oX at *
                      have HNO := Aside0.mk (show NoS L from fun y hy hL => by
                        have := HEND.out y hy hL
                        rw [this] at hy
                        have h2 := rightB_true hy
                        rw [hrb] at h2
                        cases h2)
                      clear hrb t1 t2
                      go_wp2_with (refine wpList_store_same rfl 79 (.tmp 2) (.tmp 98) rfl w.heap.size Z79 rfl rfl 79 H7.out.h2 (i79 _ _ _) a86Z ?_)
                      refine bodyPost_ret (res_ct (p := 2) (q := 3) _ rfl rfl H7.out.h2 StmP.u79 rfl (i79 _ _ _)) rfl ?_
                      rw [HP.out]
                      exact ⟨H7.out.rd.below, .inr (.inr (.inl ⟨by rw [← HN.out]; omega, HOK2.out, HNO.out, rfl⟩))⟩
                    | true =>
                      have HR : Aside0 (RightS X) := ⟨by unfold StmI.rightB at hrb; simpa using hrb⟩
                      rw [show codeS X = 0 by rw [codeS, hrb]; rfl]
                      have eo : outS X = stmL X := by rw [outS, hrb]; rfl
                      rw [eo] at t1 ⊢
                      have hS := CatV.str_iff (stmL X) L (stmL_byt X) HC.out.2.1
                      clear hrb eo
                      generalize hlo : (stmL X).length = lo at *
                      generalize strOfNums (stmL X) = S5 at *
                      generalize strOfNums L = SL at *
                      by_cases heq : stmL X = L
                      · rw [decide_eq_true heq] at hS
                        have HEQ := Aside0.mk heq
                        clear heq hlo
                        have x0 : w7.cell? ⟨gx, 0, none⟩ = some (.string s1) := by rw [cell_of_row _ _ 0 _ 79 (0, 0) H7.out.hx]; rfl
                        have x1 : w7.cell? ⟨gx, 1, none⟩ = some (.string s2) := by rw [cell_of_row _ _ 1 _ 79 (0, 0) H7.out.hx]; rfl
                        have x2 : w7.cell? ⟨gx, 2, none⟩ = some (.slice AL cs.length cL) := by rw [cell_of_row _ _ 2 _ 79 (0, 0) H7.out.hx]; rfl
                        go_wp2_with (refine wpList_store_row rfl 79 (.tmp 2) (.tmp 99) rfl w.heap.size #[.string s1, .string s2, .slice AL cs.length cL] rfl rfl 79 Z79 H7.out.h2 (i79 _ _ _) rfl (a86 _ _ _ _ _) ?_)
                        refine bodyPost_ret (res_ct (p := 2) (q := 3) _ rfl rfl (setRow_heap _ w.heap.size _ #[.string s1, .string s2, .slice AL cs.length cL] 79 _ H7.out.h2) StmP.u79 rfl (i79 _ _ _)) rfl ?_
                        rw [HP.out]
                        refine ⟨below_setRow H7.out.rd.below (Nat.le_refl _) _, .inr (.inr (.inr ⟨X, .slice AL cs.length cL, HR.out, HEQ.out, by rw [HX.out]; rfl, ?_⟩))⟩
                        rw [HX.out]
                        exact H7.out.cell _
                      · rw [decide_eq_false heq] at hS
                        have HNO := Aside0.mk (show NoS L from fun y hy hL => by
                          have := HEND.out y hy hL
                          rw [this] at hL
                          exact heq hL)
                        clear heq hlo
                        go_wp2_with (refine wpList_store_same rfl 79 (.tmp 2) (.tmp 98) rfl w.heap.size Z79 rfl rfl 79 H7.out.h2 (i79 _ _ _) a86Z ?_)
                        refine bodyPost_ret (res_ct (p := 2) (q := 3) _ rfl rfl H7.out.h2 StmP.u79 rfl (i79 _ _ _)) rfl ?_
                        rw [HP.out]
                        exact ⟨H7.out.rd.below, .inr (.inr (.inl ⟨by rw [← HN.out]; omega, HOK2.out, HNO.out, rfl⟩))⟩
                  · have hlp := List.length_pos_iff.2 hl
                    have dl : decide ((0 : Int) < (l.length : Int)) = true := decide_eq_true (by omega)
                    have HNO := Aside0.mk (inv_rest HI.out hl)
                    clear hl
                    go_wp2_with (refine wpList_store_same rfl 79 (.tmp 2) (.tmp 83) rfl w.heap.size Z79 rfl rfl 79 HU.out.h2 (i79 _ _ _) a86Z ?_)
                    refine bodyPost_ret (res_ct (p := 2) (q := 3) _ rfl rfl HU.out.h2 StmP.u79 rfl (i79 _ _ _)) rfl ?_
                    rw [HP.out]
                    exact ⟨HU.out.rd.below, .inr (.inr (.inl ⟨by rw [← HN.out]; omega, HOK2.out, HNO.out, rfl⟩))⟩
        · refine wp_alloc79 (o := ⟨some 9, _, _, _, _, _⟩) rfl ?_
          have hb0 := below_alloc (Below.refl W0.heap.size W0) (.cells Z79 79)
          have HR1 := Aside0.mk (HR0.out.on hb0)
          have HZ1 := Aside0.mk (blk_below HZ0.out hb0)
          have HX1 := Aside0.mk (blk_new W0 (.cells Z79 79))
          have hz0 := hb0.size
          have hzg : W0.heap.size < (W0.alloc (.cells Z79 79)).heap.size := by simp
          refine hK2.out _ _ trivial (fun hW => ?_)
          try simp only [Act.put, List.setIfInBounds_toArray, List.set_cons_zero, List.set_cons_succ]
          clear hb0
          generalize hWn0 : W0.alloc (.cells Z79 79) = Wa0 at *
          clear hWn0
          have hgx : g < W0.heap.size := by omega
          refine wpAnyH_ready (rs := [1]) (by kernel_rfl) (by simp) (AllReadyH.cons rfl (fun K9 hK9 => ?_) AllReadyH.nil)
          go_simp
          refine (textT_calls 63 (by decide) readText_63 w g (rest0 L) false Wa0 HR1.out).mono ?_
          rintro e Wa1 ⟨A46, c46, fr46, rfl, hc46, hle46, hrd, hkp⟩
          generalize (readText (rest0 L) 63).1 = s1 at *
          generalize (rest0 L).drop (readText (rest0 L) 63).2.1 = l1 at *
          generalize (false || decide ((readText (rest0 L) 63).2.2 ≠ 0)) = b1 at *
          have HR2 := Aside0.mk hrd
          have HZ2 := Aside0.mk (hkp.blk HZ1.out (Ne.symm (Nat.ne_of_gt hs2)) (by simp))
          have HX2 := Aside0.mk (hkp.blk HX1.out (Nat.ne_of_gt hgx) (by simp))
          have C12 := Aside0.mk hc46
          have hz1 := hkp.1
          clear hrd hkp hc46 hle46
          refine hK9.out _ _ trivial (fun hW => ?_)
          try simp only [Act.put, List.setIfInBounds_toArray, List.set_cons_zero, List.set_cons_succ]
          refine wpAnyH_mono (S' := fun w' => C8 w' A46 s1.size (bytesOf s1)) (fun _ _ => trivial) ?_
          refine wpAnyH_take (i := 2) (oi := ⟨some 47, _, _, _, _, _⟩) (v := .string s1) rfl (by kernel_rfl) (by kernel_rfl) (by kernel_rfl) (fun _ _ _ h => h) (.inl ⟨by rfl, fun W1 h1 => by (have x1 := Kd.C_string (c := c46) (P := Try.prog) Try.underlying31 Try.underlying5 Try.underlying9 h1; rw [str_bytes] at x1); go_simp⟩) C12.out ?_
          try simp only [Act.put, List.setIfInBounds_toArray, List.set_cons_zero, List.set_cons_succ]
          refine wpAnyH_ready (rs := [4]) (by kernel_rfl) (by simp) (AllReadyH.cons rfl (fun K10 hK10 => ?_) AllReadyH.nil)
          go_simp
          refine (textT_calls 63 (by decide) readText_63 w g l1 b1 Wa1 HR2.out).mono ?_
          rintro e Wa2 ⟨A49, c49, fr49, rfl, hc49, hle49, hrd, hkp⟩
          generalize (readText l1 63).1 = s2 at *
          generalize l1.drop (readText l1 63).2.1 = l2 at *
          generalize (b1 || decide ((readText l1 63).2.2 ≠ 0)) = b2 at *
          have HR3 := Aside0.mk hrd
          have HZ3 := Aside0.mk (hkp.blk HZ2.out (Ne.symm (Nat.ne_of_gt hs2)) (by simp))
          have HX3 := Aside0.mk (hkp.blk HX2.out (Nat.ne_of_gt hgx) (by simp))
          have C43 := Aside0.mk hc49
          have C13 := Aside0.mk (C8_moves C12.out fun ad e => hkp.2 _ (Nat.lt_of_lt_of_le (fr46 ad e).2 (by omega)) (by have := (fr46 ad e).1; omega) (by simp))
          have hz2 := hkp.1
          clear hrd hkp hc49 hle49
          refine hK10.out _ _ C13.out (fun hW => ?_)
          try simp only [Act.put, List.setIfInBounds_toArray, List.set_cons_zero, List.set_cons_succ]
          refine wpAnyH_mono (S' := fun w' => C8 w' A46 s1.size (bytesOf s1) ∧ C8 w' A49 s2.size (bytesOf s2)) (fun _ h => h.1) ?_
          refine wpAnyH_take (i := 5) (oi := ⟨some 50, _, _, _, _, _⟩) (v := .string s2) rfl (by kernel_rfl) (by kernel_rfl) (by kernel_rfl) (fun _ _ _ h => h) (.inl ⟨by rfl, fun W1 h1 => by (have x1 := Kd.C_string (c := c49) (P := Try.prog) Try.underlying31 Try.underlying5 Try.underlying9 h1.2; rw [str_bytes] at x1); go_simp⟩) ⟨C13.out, C43.out⟩ ?_
          try simp only [Act.put, List.setIfInBounds_toArray, List.set_cons_zero, List.set_cons_succ]
          refine wpAnyH_take (i := 6) (oi := ⟨some 51, _, _, _, _, _⟩) (v := .agg #[.string s1, .string s2, .slice none 0 0]) rfl (by kernel_rfl) (by kernel_rfl) (by kernel_rfl) (fun _ _ _ h => h) (.inl ⟨by rfl, fun W1 h1 => by go_simp⟩) ⟨C13.out, C43.out⟩ ?_
          try simp only [Act.put, List.setIfInBounds_toArray, List.set_cons_zero, List.set_cons_succ]
          refine wpAnyH_ready (rs := [8]) (by kernel_rfl) (by simp) (AllReadyH.cons rfl (fun K11 hK11 => ?_) AllReadyH.nil)
          refine wp_store_row (o := ⟨none, _, _, _, _, _⟩) 79 (.tmp 9) (.tmp 51) rfl W0.heap.size #[.string s1, .string s2, .slice none 0 0] rfl rfl 79 Z79 HX3.out (i79 _ _ _) rfl (a86 _ _ _ _ _) ?_
          have hz46 : ∀ ad, A46 = some ad → ad.block ≠ W0.heap.size := fun ad e => by have := fr46 ad e; omega
          have hz49 : ∀ ad, A49 = some ad → ad.block ≠ W0.heap.size := fun ad e => by have := fr49 ad e; omega
          refine hK11.out _ _ ⟨C8_moves C13.out fun ad e => setRow_other _ _ _ _ (hz46 ad e), C8_moves C43.out fun ad e => setRow_other _ _ _ _ (hz49 ad e)⟩ (fun hW => ?_)
          try simp only [Act.put, List.setIfInBounds_toArray, List.set_cons_zero, List.set_cons_succ]
          refine wpAnyH_done (by kernel_rfl) ?_ _
          have HU := Aside0.mk (⟨HR3.out.keep (below_setRow HR3.out.below (by omega) _) (setRow_other _ _ _ _ (by omega)), setRow_heap _ _ _ _ 79 _ HX3.out, (setRow_other _ _ _ _ (by omega)).trans HZ3.out, by omega, by omega, by omega, by omega, Kd.R_nil _ _ _ _ _, rfl, fun i hi => absurd hi (Nat.not_lt_zero _), fun i hi => absurd hi (Nat.not_lt_zero _)⟩ : IU w g W0.heap.size l2 b2 s1 s2 (.slice none 0 0) [] [] (Wa2.setRow W0.heap.size #[.string s1, .string s2, .slice none 0 0]))
          clear hz46 hz49 hW fr46 fr49 hgx
          generalize W0.heap.size = gx at *
          generalize Wa2.setRow gx #[.string s1, .string s2, .slice none 0 0] = Wz at *
          go_wp2_with fail
          refine (numT_calls 65536 (by decide) w g l2 b2 Wz HU.out.rd).mono ?_
          rintro e Wn ⟨rfl, hrd, hkp⟩
          have hnb := numR_le l2 HU.out.rd.byt
          have HU2 := Aside0.mk (HU.out.keep hrd hkp)
          clear hrd hkp HU
          generalize (if badN l2 65536 = true then 0 else (readShort l2).1) = nn at *
          generalize (if badN l2 65536 = true then l2 else l2.drop (readShort l2).2.1) = l3 at *
          generalize (b2 || badN l2 65536) = b3 at *
          obtain ⟨N, rfl⟩ : ∃ N : Nat, nn = (N : Int) := ⟨nn.toNat, by omega⟩
          rw [Int.toNat_natCast] at HST
          have hcon : Try.prog.concrete 41 = true := by kernel_rfl
          go_wp2
          go_loopw [54] (fun v54 wr => ∃ (j : Nat) (cs : List Chg) (sl : List Sl) (vL : Value) (l : List Int) (bad : Bool), v54 = .int .i64 (j : Int) ∧ j ≤ N ∧ Aside0 (Inv L s1 s2 N j cs l bad) ∧ Aside0 (IU w g gx l bad s1 s2 vL cs sl wr)) (fun v _ => N - (intOf v).toNat)
          case atStart => exact ⟨0, [], [], .slice none 0 0, l3, b3, rfl, Nat.zero_le _, HST, HU2⟩
          case round =>
            obtain ⟨j, cs, sl, vL, l, bad, rfl, hj, HI, HU⟩ := hrel
            clear HST HU2
            obtain ⟨Ar, cr, hCr, hlr, hgr⟩ := HU.out.rd.blk
            have HGR := Aside0.mk hgr
            clear hCr hlr hgr
            cases bad with
            | true =>
              have HNO := Aside0.mk (inv_bad HI.out)
              have xg : wr.cell? ⟨g, 1, none⟩ = some (.iface 41 (.int .i64 11)) := by rw [cell_of_row _ _ 1 _ 149 (0, 0) HGR.out]; rfl
              have hq : ∀ W : World, (binOp .neq 147 (.iface 41 (.int .i64 11)) .nilIface).run Try.prog W = .ok (.bool true) W := fun W => by kernel_rfl
              by_cases hlt : j < N
              · have dj : decide ((j : Int) < (N : Int)) = true := decide_eq_true (by omega)
                go_wp2_with fail
                refine (is_form wr).mono ?_
                rintro e w' ⟨rfl, rfl⟩
                go_wp2_with (refine wpList_store_same rfl 79 (.tmp 2) (.tmp 83) rfl w.heap.size Z79 rfl rfl 79 HU.out.h2 (i79 _ _ _) a86Z ?_)
                refine bodyPost_ret (res_ct (p := 2) (q := 3) _ rfl rfl HU.out.h2 StmP.u79 rfl (i79 _ _ _)) rfl ?_
                rw [HP.out]
                exact ⟨HU.out.rd.below, .inr (.inr (.inl ⟨by rw [← HN.out]; omega, HOK2.out, HNO.out, rfl⟩))⟩
              · have dj : decide ((j : Int) < (N : Int)) = false := decide_eq_false (by omega)
                go_wp2_with fail
                refine (is_form wr).mono ?_
                rintro e w' ⟨rfl, rfl⟩
                go_wp2_with (refine wpList_store_same rfl 79 (.tmp 2) (.tmp 83) rfl w.heap.size Z79 rfl rfl 79 HU.out.h2 (i79 _ _ _) a86Z ?_)
                refine bodyPost_ret (res_ct (p := 2) (q := 3) _ rfl rfl HU.out.h2 StmP.u79 rfl (i79 _ _ _)) rfl ?_
                rw [HP.out]
                exact ⟨HU.out.rd.below, .inr (.inr (.inl ⟨by rw [← HN.out]; omega, HOK2.out, HNO.out, rfl⟩))⟩
            | false =>
              have xg : wr.cell? ⟨g, 1, none⟩ = some .nilIface := by rw [cell_of_row _ _ 1 _ 149 (0, 0) HGR.out]; rfl
              have hq : ∀ W : World, (binOp .neq 147 .nilIface .nilIface).run Try.prog W = .ok (.bool false) W := fun W => by kernel_rfl
              by_cases hlt : j < N
              · have dj : decide ((j : Int) < (N : Int)) = true := decide_eq_true (by omega)
                go_wp2
                clear xg hq
                have HUd := Aside0.mk (HU.out.on (below_drew (Below.refl wr.heap.size wr)))
                clear HU
                refine wp_region_held_drew (S := fun _ => True) (by kernel_rfl) trivial (fun _ => ?_)
                generalize hWr : wr.drew = Wr at *
                clear hWr
                refine wpAnyH_take (i := 0) (oi := ⟨some 61, _, _, _, _, _⟩) (v := .pointer (some ⟨gx, 2, none⟩)) rfl (by kernel_rfl) (by kernel_rfl) (by kernel_rfl) (fun _ _ _ h => h) (.inl ⟨by rfl, fun W1 h1 => by go_simp⟩) trivial ?_
                try simp only [Act.put, List.setIfInBounds_toArray, List.set_cons_zero, List.set_cons_succ]
                refine wpAnyH_take (i := 2) (oi := ⟨some 63, _, _, _, _, _⟩) (v := .pointer (some ⟨g, 0, none⟩)) rfl (by kernel_rfl) (by kernel_rfl) (by kernel_rfl) (fun _ _ _ h => h) (.inl ⟨by rfl, fun W1 h1 => by go_simp⟩) trivial ?_
                try simp only [Act.put, List.setIfInBounds_toArray, List.set_cons_zero, List.set_cons_succ]
                refine wpAnyH_ready (rs := [1, 3]) (by kernel_rfl) (by simp) (AllReadyH.cons rfl (fun J1 hJ1 => ?_) (AllReadyH.cons rfl (fun J2 hJ2 => ?_) AllReadyH.nil))
                · have xl : Wr.cell? ⟨gx, 2, none⟩ = some vL := by rw [cell_of_row _ _ 2 _ 79 (0, 0) HUd.out.hx]; rfl
                  go_simp
                  refine hJ1.out _ _ trivial (fun _ => ?_)
                  try simp only [Act.put, List.setIfInBounds_toArray, List.set_cons_zero, List.set_cons_succ]
                  clear xl
                  refine wpAnyH_ready (rs := [3]) (by kernel_rfl) (by simp) (AllReadyH.cons rfl (fun J3 hJ3 => ?_) AllReadyH.nil)
                  go_simp
                  refine (change_calls w g l false Wr HUd.out.rd).mono ?_
                  rintro e W1 ⟨A1, n1, c1, A2, n2, c2, A3, n3, c3, f1, f2, f3, rfl, hca, hrd, hkp⟩
                  have HUe := Aside0.mk (HUd.out.keep hrd hkp)
                  have HP1 := Aside0.mk (show Sl.ca W1 ⟨A1, n1, c1, A2, n2, c2, A3, n3, c3, (chgR l false).1.gone⟩ (chgR l false).1 from ⟨hca, rfl⟩)
                  have HF1 := Aside0.mk (show FarP w g gx vL.ownBlock W1 ⟨A1, n1, c1, A2, n2, c2, A3, n3, c3, (chgR l false).1.gone⟩ from fun ad e => by
                    have hb : Wr.heap.size ≤ ad.block ∧ ad.block < W1.heap.size := by
                      rcases e with e | e | e
                      · exact f1 ad e
                      · exact f2 ad e
                      · exact f3 ad e
                    have q1 := HUd.out.rd.lt
                    have q2 := blk_lt HUd.out.hx
                    have q3 := blk_lt HUd.out.h2
                    have q4 := Kd.R_lt HUd.out.row
                    refine ⟨by omega, by omega, by omega, fun he => ?_, hb.2⟩
                    have := q4 _ he.symm
                    omega)
                  clear hca hrd hkp f1 f2 f3
                  refine hJ3.out _ _ trivial (fun _ => ?_)
                  try simp only [Act.put, List.setIfInBounds_toArray, List.set_cons_zero, List.set_cons_succ]
                  refine wpAnyH_ready (rs := [4]) (by kernel_rfl) (by simp) (AllReadyH.cons rfl (fun J4 hJ4 => ?_) AllReadyH.nil)
                  refine wp_one_S (o := ⟨some 65, _, _, _, _, _⟩) (.tmp 64) rfl ⟨A1, n1, c1, A2, n2, c2, A3, n3, c3, (chgR l false).1.gone⟩ rfl ?_
                  refine hJ4.out _ _ trivial (fun _ => ?_)
                  try simp only [Act.put, List.setIfInBounds_toArray, List.set_cons_zero, List.set_cons_succ]
                  refine wpAnyH_ready (rs := [5]) (by kernel_rfl) (by simp) (AllReadyH.cons rfl (fun J5 hJ5 => ?_) AllReadyH.nil)
                  refine wp_append_S (o := ⟨some 66, _, _, _, _, _⟩) (w0 := w) w.heap.size (.tmp 62) (.tmp 65) rfl vL sl ⟨A1, n1, c1, A2, n2, c2, A3, n3, c3, (chgR l false).1.gone⟩ rfl rfl HUe.out.row HUe.out.rd.below HUe.out.rd.below.size (by have := HUe.out.len; have := HI.out.len; omega) ?_
                  intro v9 w9 hr9 hb9 hg9 ho9
                  have HU9 := Aside0.mk (HUe.out.push HP1.out HF1.out hr9 hb9 hg9 ho9)
                  have e9 := blk_grown HUe.out.hx hg9 (Kd.R_ne HUe.out.row HUe.out.hx (by decide))
                  have x9 : w9.cell? ⟨gx, 2, none⟩ = some vL := by rw [cell_of_row _ _ 2 _ 79 (0, 0) e9]; rfl
                  have f9 := frozen_of_row w9 gx 2 _ 79 e9
                  obtain ⟨A9, c9, hv9⟩ := Kd.R_slice hr9
                  generalize (sl ++ [_]).length = n9 at hv9
                  subst hv9
                  clear hr9 hb9 hg9 ho9 e9
                  refine hJ5.out _ _ trivial (fun _ => ?_)
                  try simp only [Act.put, List.setIfInBounds_toArray, List.set_cons_zero, List.set_cons_succ]
                  refine wpAnyH_take (i := 6) (oi := ⟨some 67, _, _, _, _, _⟩) (v := .pointer (some ⟨gx, 2, none⟩)) rfl (by kernel_rfl) (by kernel_rfl) (by kernel_rfl) (fun _ _ _ h => h) (.inl ⟨by rfl, fun W1 h1 => by go_simp⟩) trivial ?_
                  try simp only [Act.put, List.setIfInBounds_toArray, List.set_cons_zero, List.set_cons_succ]
                  refine wpAnyH_ready (rs := [7]) (by kernel_rfl) (by simp) (AllReadyH.cons rfl (fun J6 hJ6 => ?_) AllReadyH.nil)
                  go_simp
                  refine hJ6.out _ _ trivial (fun _ => ?_)
                  try simp only [Act.put, List.setIfInBounds_toArray, List.set_cons_zero, List.set_cons_succ]
                  refine wpAnyH_done (by kernel_rfl) ?_ _
                  clear x9 f9
                  go_wp2
                  go_roundw
                  case rel => exact ⟨j + 1, _, _, _, _, _, by go_num, by omega, ⟨inv_step HI.out hlt⟩, HU9⟩
                  case measure => simp [intOf]; omega
                · go_simp
                  refine (change_calls w g l false Wr HUd.out.rd).mono ?_
                  rintro e W1 ⟨A1, n1, c1, A2, n2, c2, A3, n3, c3, f1, f2, f3, rfl, hca, hrd, hkp⟩
                  have HUe := Aside0.mk (HUd.out.keep hrd hkp)
                  have HP1 := Aside0.mk (show Sl.ca W1 ⟨A1, n1, c1, A2, n2, c2, A3, n3, c3, (chgR l false).1.gone⟩ (chgR l false).1 from ⟨hca, rfl⟩)
                  have HF1 := Aside0.mk (show FarP w g gx vL.ownBlock W1 ⟨A1, n1, c1, A2, n2, c2, A3, n3, c3, (chgR l false).1.gone⟩ from fun ad e => by
                    have hb : Wr.heap.size ≤ ad.block ∧ ad.block < W1.heap.size := by
                      rcases e with e | e | e
                      · exact f1 ad e
                      · exact f2 ad e
                      · exact f3 ad e
                    have q1 := HUd.out.rd.lt
                    have q2 := blk_lt HUd.out.hx
                    have q3 := blk_lt HUd.out.h2
                    have q4 := Kd.R_lt HUd.out.row
                    refine ⟨by omega, by omega, by omega, fun he => ?_, hb.2⟩
                    have := q4 _ he.symm
                    omega)
                  clear hca hrd hkp f1 f2 f3
                  refine hJ2.out _ _ trivial (fun _ => ?_)
                  try simp only [Act.put, List.setIfInBounds_toArray, List.set_cons_zero, List.set_cons_succ]
                  refine wpAnyH_ready (rs := [1, 4]) (by kernel_rfl) (by simp) (AllReadyH.cons rfl (fun J3 hJ3 => ?_) (AllReadyH.cons rfl (fun J4 hJ4 => ?_) AllReadyH.nil))
                  · have xl : W1.cell? ⟨gx, 2, none⟩ = some vL := by rw [cell_of_row _ _ 2 _ 79 (0, 0) HUe.out.hx]; rfl
                    go_simp
                    refine hJ3.out _ _ trivial (fun _ => ?_)
                    try simp only [Act.put, List.setIfInBounds_toArray, List.set_cons_zero, List.set_cons_succ]
                    clear xl
                    refine wpAnyH_ready (rs := [4]) (by kernel_rfl) (by simp) (AllReadyH.cons rfl (fun J7 hJ7 => ?_) AllReadyH.nil)
                    refine wp_one_S (o := ⟨some 65, _, _, _, _, _⟩) (.tmp 64) rfl ⟨A1, n1, c1, A2, n2, c2, A3, n3, c3, (chgR l false).1.gone⟩ rfl ?_
                    refine hJ7.out _ _ trivial (fun _ => ?_)
                    try simp only [Act.put, List.setIfInBounds_toArray, List.set_cons_zero, List.set_cons_succ]
                    refine wpAnyH_ready (rs := [5]) (by kernel_rfl) (by simp) (AllReadyH.cons rfl (fun J5 hJ5 => ?_) AllReadyH.nil)
                    refine wp_append_S (o := ⟨some 66, _, _, _, _, _⟩) (w0 := w) w.heap.size (.tmp 62) (.tmp 65) rfl vL sl ⟨A1, n1, c1, A2, n2, c2, A3, n3, c3, (chgR l false).1.gone⟩ rfl rfl HUe.out.row HUe.out.rd.below HUe.out.rd.below.size (by have := HUe.out.len; have := HI.out.len; omega) ?_
                    intro v9 w9 hr9 hb9 hg9 ho9
                    have HU9 := Aside0.mk (HUe.out.push HP1.out HF1.out hr9 hb9 hg9 ho9)
                    have e9 := blk_grown HUe.out.hx hg9 (Kd.R_ne HUe.out.row HUe.out.hx (by decide))
                    have x9 : w9.cell? ⟨gx, 2, none⟩ = some vL := by rw [cell_of_row _ _ 2 _ 79 (0, 0) e9]; rfl
                    have f9 := frozen_of_row w9 gx 2 _ 79 e9
                    obtain ⟨A9, c9, hv9⟩ := Kd.R_slice hr9
                    generalize (sl ++ [_]).length = n9 at hv9
                    subst hv9
                    clear hr9 hb9 hg9 ho9 e9
                    refine hJ5.out _ _ trivial (fun _ => ?_)
                    try simp only [Act.put, List.setIfInBounds_toArray, List.set_cons_zero, List.set_cons_succ]
                    refine wpAnyH_take (i := 6) (oi := ⟨some 67, _, _, _, _, _⟩) (v := .pointer (some ⟨gx, 2, none⟩)) rfl (by kernel_rfl) (by kernel_rfl) (by kernel_rfl) (fun _ _ _ h => h) (.inl ⟨by rfl, fun W1 h1 => by go_simp⟩) trivial ?_
                    try simp only [Act.put, List.setIfInBounds_toArray, List.set_cons_zero, List.set_cons_succ]
                    refine wpAnyH_ready (rs := [7]) (by kernel_rfl) (by simp) (AllReadyH.cons rfl (fun J6 hJ6 => ?_) AllReadyH.nil)
                    go_simp
                    refine hJ6.out _ _ trivial (fun _ => ?_)
                    try simp only [Act.put, List.setIfInBounds_toArray, List.set_cons_zero, List.set_cons_succ]
                    refine wpAnyH_done (by kernel_rfl) ?_ _
                    clear x9 f9
                    go_wp2
                    go_roundw
                    case rel => exact ⟨j + 1, _, _, _, _, _, by go_num, by omega, ⟨inv_step HI.out hlt⟩, HU9⟩
                    case measure => simp [intOf]; omega
                  · refine wp_one_S (o := ⟨some 65, _, _, _, _, _⟩) (.tmp 64) rfl ⟨A1, n1, c1, A2, n2, c2, A3, n3, c3, (chgR l false).1.gone⟩ rfl ?_
                    refine hJ4.out _ _ trivial (fun _ => ?_)
                    try simp only [Act.put, List.setIfInBounds_toArray, List.set_cons_zero, List.set_cons_succ]
                    refine wpAnyH_ready (rs := [1]) (by kernel_rfl) (by simp) (AllReadyH.cons rfl (fun J7 hJ7 => ?_) AllReadyH.nil)
                    have xl : (W1.alloc (.cells (encS ⟨A1, n1, c1, A2, n2, c2, A3, n3, c3, (chgR l false).1.gone⟩) 133)).cell? ⟨gx, 2, none⟩ = some vL := by rw [cell_of_row _ _ 2 _ 79 (0, 0) (blk_alloc HUe.out.hx _)]; rfl
                    go_simp
                    refine hJ7.out _ _ trivial (fun _ => ?_)
                    try simp only [Act.put, List.setIfInBounds_toArray, List.set_cons_zero, List.set_cons_succ]
                    clear xl
                    refine wpAnyH_ready (rs := [5]) (by kernel_rfl) (by simp) (AllReadyH.cons rfl (fun J5 hJ5 => ?_) AllReadyH.nil)
                    refine wp_append_S (o := ⟨some 66, _, _, _, _, _⟩) (w0 := w) w.heap.size (.tmp 62) (.tmp 65) rfl vL sl ⟨A1, n1, c1, A2, n2, c2, A3, n3, c3, (chgR l false).1.gone⟩ rfl rfl HUe.out.row HUe.out.rd.below HUe.out.rd.below.size (by have := HUe.out.len; have := HI.out.len; omega) ?_
                    intro v9 w9 hr9 hb9 hg9 ho9
                    have HU9 := Aside0.mk (HUe.out.push HP1.out HF1.out hr9 hb9 hg9 ho9)
                    have e9 := blk_grown HUe.out.hx hg9 (Kd.R_ne HUe.out.row HUe.out.hx (by decide))
                    have x9 : w9.cell? ⟨gx, 2, none⟩ = some vL := by rw [cell_of_row _ _ 2 _ 79 (0, 0) e9]; rfl
                    have f9 := frozen_of_row w9 gx 2 _ 79 e9
                    obtain ⟨A9, c9, hv9⟩ := Kd.R_slice hr9
                    generalize (sl ++ [_]).length = n9 at hv9
                    subst hv9
                    clear hr9 hb9 hg9 ho9 e9
                    refine hJ5.out _ _ trivial (fun _ => ?_)
                    try simp only [Act.put, List.setIfInBounds_toArray, List.set_cons_zero, List.set_cons_succ]
                    refine wpAnyH_take (i := 6) (oi := ⟨some 67, _, _, _, _, _⟩) (v := .pointer (some ⟨gx, 2, none⟩)) rfl (by kernel_rfl) (by kernel_rfl) (by kernel_rfl) (fun _ _ _ h => h) (.inl ⟨by rfl, fun W1 h1 => by go_simp⟩) trivial ?_
                    try simp only [Act.put, List.setIfInBounds_toArray, List.set_cons_zero, List.set_cons_succ]
                    refine wpAnyH_ready (rs := [7]) (by kernel_rfl) (by simp) (AllReadyH.cons rfl (fun J6 hJ6 => ?_) AllReadyH.nil)
                    go_simp
                    refine hJ6.out _ _ trivial (fun _ => ?_)
                    try simp only [Act.put, List.setIfInBounds_toArray, List.set_cons_zero, List.set_cons_succ]
                    refine wpAnyH_done (by kernel_rfl) ?_ _
                    clear x9 f9
                    go_wp2
                    go_roundw
                    case rel => exact ⟨j + 1, _, _, _, _, _, by go_num, by omega, ⟨inv_step HI.out hlt⟩, HU9⟩
                    case measure => simp [intOf]; omega
              · obtain rfl : j = N := by omega
                have dj : decide ((j : Int) < (j : Int)) = false := decide_eq_false (by omega)
                have xg0 : wr.cell? ⟨g, 0, none⟩ = some (.slice Ar l.length cr) := by rw [cell_of_row _ _ 0 _ 149 (0, 0) HGR.out]; rfl
                go_wp2_with fail
                refine (is_nil wr).mono ?_
                rintro e w' ⟨rfl, rfl⟩
                by_cases hl : l = []
                · subst hl
                  have hcl : cs.length ≤ 9000 ∧ wtL cs ≤ 10000 := by have := HI.out.wt rfl; have := wtL_len cs; have := HN.out; omega
                  obtain ⟨AL, cL, rfl, hcr⟩ := HU.out.cr
                  have HEND := Aside0.mk (inv_end HI.out)
                  obtain ⟨X, hX⟩ : ∃ X : Stm, X = ⟨s1, s2, cs⟩ := ⟨_, rfl⟩
                  have HX := Aside0.mk hX
                  have HPUT := Aside0.mk (show Calls Try.prog 46 #[.agg #[.string s1, .string s2, .slice AL cs.length cL]] w' (TellsPutS w' (.int .i64) X) by
                    rw [hX]; exact put_calls ⟨s1, s2, cs⟩ AL cL cs.length sl w' hcr hcl.1 (fun _ => hcl.2))
                  rw [← hX] at HEND
                  clear hcr hX
                  have x0 : w'.cell? ⟨gx, 0, none⟩ = some (.string s1) := by rw [cell_of_row _ _ 0 _ 79 (0, 0) HU.out.hx]; rfl
                  have x1 : w'.cell? ⟨gx, 1, none⟩ = some (.string s2) := by rw [cell_of_row _ _ 1 _ 79 (0, 0) HU.out.hx]; rfl
                  have x2 : w'.cell? ⟨gx, 2, none⟩ = some (.slice AL cs.length cL) := by rw [cell_of_row _ _ 2 _ 79 (0, 0) HU.out.hx]; rfl
                  go_wp2_with fail
                  clear x0 x1 x2 xg xg0 hq
                  refine HPUT.out.mono ?_
                  rintro e w7 ⟨v7, rfl, hr7, hb7⟩
                  have H7 := Aside0.mk (HU.out.on hb7)
                  obtain ⟨A7, c7, rfl, hle7, hC7⟩ := Kd.R_reads hr7
                  have t1 := Kd.C_string (P := Try.prog) (c := c7) Try.underlying31 Try.underlying5 Try.underlying9 hC7
                  have t2 : (convert 31 9 (.slice A (k + 4) c)).run Try.prog w7 = .ok (.string (strOfNums L)) w7 := by
                    rw [← hk]
                    exact Kd.C_string (P := Try.prog) Try.underlying31 Try.underlying5 Try.underlying9 (Kd.C_below HC.out.1 H7.out.rd.below)
                  clear hr7 hb7 hle7 hC7 HU HPUT
                  cases hrb : StmI.rightB X with
                  | false =>
                    have HR := Aside0.mk hrb
                    rw [show codeS X = 2 by rw [codeS, hrb]; rfl]
                    generalize outS X = oX at *
                    have HNO := Aside0.mk (show NoS L from fun y hy hL => by
                      have := HEND.out y hy hL
                      rw [this] at hy
                      have h2 := rightB_true hy
                      rw [hrb] at h2
                      cases h2)
                    clear hrb t1 t2
                    go_wp2_with (refine wpList_store_same rfl 79 (.tmp 2) (.tmp 98) rfl w.heap.size Z79 rfl rfl 79 H7.out.h2 (i79 _ _ _) a86Z ?_)
                    refine bodyPost_ret (res_ct (p := 2) (q := 3) _ rfl rfl H7.out.h2 StmP.u79 rfl (i79 _ _ _)) rfl ?_
                    rw [HP.out]
                    exact ⟨H7.out.rd.below, .inr (.inr (.inl ⟨by rw [← HN.out]; omega, HOK2.out, HNO.out, rfl⟩))⟩
                  | true =>
                    have HR : Aside0 (RightS X) := ⟨by unfold StmI.rightB at hrb; simpa using hrb⟩
                    rw [show codeS X = 0 by rw [codeS, hrb]; rfl]
                    have eo : outS X = stmL X := by rw [outS, hrb]; rfl
                    rw [eo] at t1 ⊢
                    have hS := CatV.str_iff (stmL X) L (stmL_byt X) HC.out.2.1
                    clear hrb eo
                    generalize hlo : (stmL X).length = lo at *
                    generalize strOfNums (stmL X) = S5 at *
                    generalize strOfNums L = SL at *
                    by_cases heq : stmL X = L
                    · rw [decide_eq_true heq] at hS
                      have HEQ := Aside0.mk heq
                      clear heq hlo
                      have x0 : w7.cell? ⟨gx, 0, none⟩ = some (.string s1) := by rw [cell_of_row _ _ 0 _ 79 (0, 0) H7.out.hx]; rfl
                      have x1 : w7.cell? ⟨gx, 1, none⟩ = some (.string s2) := by rw [cell_of_row _ _ 1 _ 79 (0, 0) H7.out.hx]; rfl
                      have x2 : w7.cell? ⟨gx, 2, none⟩ = some (.slice AL cs.length cL) := by rw [cell_of_row _ _ 2 _ 79 (0, 0) H7.out.hx]; rfl
                      go_wp2_with (refine wpList_store_row rfl 79 (.tmp 2) (.tmp 99) rfl w.heap.size #[.string s1, .string s2, .slice AL cs.length cL] rfl rfl 79 Z79 H7.out.h2 (i79 _ _ _) rfl (a86 _ _ _ _ _) ?_)
                      refine bodyPost_ret (res_ct (p := 2) (q := 3) _ rfl rfl (setRow_heap _ w.heap.size _ #[.string s1, .string s2, .slice AL cs.length cL] 79 _ H7.out.h2) StmP.u79 rfl (i79 _ _ _)) rfl ?_
                      rw [HP.out]
                      refine ⟨below_setRow H7.out.rd.below (Nat.le_refl _) _, .inr (.inr (.inr ⟨X, .slice AL cs.length cL, HR.out, HEQ.out, by rw [HX.out]; rfl, ?_⟩))⟩
                      rw [HX.out]
                      exact H7.out.cell _
                    · rw [decide_eq_false heq] at hS
                      have HNO := Aside0.mk (show NoS L from fun y hy hL => by
                        have := HEND.out y hy hL
                        rw [this] at hL
                        exact heq hL)
                      clear heq hlo
                      go_wp2_with (refine wpList_store_same rfl 79 (.tmp 2) (.tmp 98) rfl w.heap.size Z79 rfl rfl 79 H7.out.h2 (i79 _ _ _) a86Z ?_)
                      refine bodyPost_ret (res_ct (p := 2) (q := 3) _ rfl rfl H7.out.h2 StmP.u79 rfl (i79 _ _ _)) rfl ?_
                      rw [HP.out]
                      exact ⟨H7.out.rd.below, .inr (.inr (.inl ⟨by rw [← HN.out]; omega, HOK2.out, HNO.out, rfl⟩))⟩
                · have hlp := List.length_pos_iff.2 hl
                  have dl : decide ((0 : Int) < (l.length : Int)) = true := decide_eq_true (by omega)
                  have HNO := Aside0.mk (inv_rest HI.out hl)
                  clear hl
                  go_wp2_with (refine wpList_store_same rfl 79 (.tmp 2) (.tmp 83) rfl w.heap.size Z79 rfl rfl 79 HU.out.h2 (i79 _ _ _) a86Z ?_)
                  refine bodyPost_ret (res_ct (p := 2) (q := 3) _ rfl rfl HU.out.h2 StmP.u79 rfl (i79 _ _ _)) rfl ?_
                  rw [HP.out]
                  exact ⟨HU.out.rd.below, .inr (.inr (.inl ⟨by rw [← HN.out]; omega, HOK2.out, HNO.out, rfl⟩))⟩
end Go.Proofs.Ytfefpbnhpncmlaa.StmU
namespace Go.Proofs.Ytfefpbnhpncmlaa.StmX
open Go.RowKit Go.Proofs.Ytfefpbnhpncmlaa.EntL Go.Proofs.Ytfefpbnhpncmlaa.EntB Go.Proofs.Ytfefpbnhpncmlaa.EntC Go.Proofs.Ytfefpbnhpncmlaa.EntD Go.Proofs.Ytfefpbnhpncmlaa.EntE Go.Proofs.Ytfefpbnhpncmlaa.EntF Go.Proofs.Ytfefpbnhpncmlaa.CatR Go.Proofs.Ytfefpbnhpncmlaa.CatT Go.Proofs.Ytfefpbnhpncmlaa.CatU Go.Proofs.Ytfefpbnhpncmlaa.CatK Go.Proofs.Ytfefpbnhpncmlaa.CatS Go.Proofs.Ytfefpbnhpncmlaa.CatY Go.Proofs.Ytfefpbnhpncmlaa.RefG Go.Proofs.Ytfefpbnhpncmlaa.PtrB Go.Proofs.Ytfefpbnhpncmlaa.PtrG Go.Proofs.Ytfefpbnhpncmlaa.Agg Go.Proofs.Ytfefpbnhpncmlaa.B8 Go.Proofs.Ytfefpbnhpncmlaa.CodL Go.Proofs.Ytfefpbnhpncmlaa.CodA Go.Proofs.Ytfefpbnhpncmlaa.CodB Go.Proofs.Ytfefpbnhpncmlaa.CatL Go.Proofs.Ytfefpbnhpncmlaa.PtrA Go.Proofs.Ytfefpbnhpncmlaa.PtrE Go.Proofs.Ytfefpbnhpncmlaa.PtrF Go.Proofs.Ytfefpbnhpncmlaa.PBaseSigns Go.Proofs.YtfefpbnhpncmlaaW.PrintWords Go.Proofs.YtfefpbnhpncmlaaW.PrintLast Go.Proofs.YtfefpbnhpncmlaaW.PrintMore Go.Proofs.Ytfefpbnhpncmlaa.EntG Go.Proofs.Ytfefpbnhpncmlaa.StmA Go.Proofs.Ytfefpbnhpncmlaa.StmB Go.Proofs.Ytfefpbnhpncmlaa.StmC Go.Proofs.Ytfefpbnhpncmlaa.CrcC Go.Proofs.Ytfefpbnhpncmlaa.StmD Go.Proofs.Ytfefpbnhpncmlaa.StmE Go.Proofs.Ytfefpbnhpncmlaa.CrcL Go.Proofs.Ytfefpbnhpncmlaa.StmL Go.Proofs.Ytfefpbnhpncmlaa.StmF Go.Proofs.Ytfefpbnhpncmlaa.StmG Go.Proofs.Ytfefpbnhpncmlaa.StmH Go.Proofs.Ytfefpbnhpncmlaa.StmI Go.Proofs.Ytfefpbnhpncmlaa.StmJ Go.Proofs.Ytfefpbnhpncmlaa.StmK Go.Proofs.Ytfefpbnhpncmlaa.StmM Go.Proofs.Ytfefpbnhpncmlaa.StmN Go.Proofs.Ytfefpbnhpncmlaa.StmO Go.Proofs.Ytfefpbnhpncmlaa.StmP Go.Proofs.Ytfefpbnhpncmlaa.StmR Go.Proofs.Ytfefpbnhpncmlaa.CrcM Go.Proofs.Ytfefpbnhpncmlaa.StmS Go.Proofs.Ytfefpbnhpncmlaa.StmT Go.Proofs.Ytfefpbnhpncmlaa.StmQ Go.Proofs.Ytfefpbnhpncmlaa.StmV Go.Proofs.Ytfefpbnhpncmlaa.StmU
set_option linter.unusedVariables false
set_option linter.unusedSimpArgs false

/-- What reading tells. -/
def Res (L : List Int) (yb ys : ByteArray) (cs : List Chg) (code : Int) : Prop :=
  (L.length < 8 ∧ yb = ⟨#[]⟩ ∧ ys = ⟨#[]⟩ ∧ cs = [] ∧ code = 10) ∨
  (8 ≤ L.length ∧ ¬ OkSum L ∧ yb = ⟨#[]⟩ ∧ ys = ⟨#[]⟩ ∧ cs = [] ∧ code = 12) ∨
  (8 ≤ L.length ∧ OkSum L ∧ NoS L ∧ yb = ⟨#[]⟩ ∧ ys = ⟨#[]⟩ ∧ cs = [] ∧ code = 11) ∨
  (∃ x, RightS x ∧ stmL x = L ∧ yb = x.base ∧ ys = x.snap ∧ cs = x.l ∧ code = 0)
theorem stmL_ok (x : Stm) : OkSum (stmL x) := stmL_sum x
theorem res_unique {L : List Int} {yb ys yb' ys' : ByteArray} {cs cs' : List Chg} {code code' : Int} (h : Res L yb ys cs code) (h' : Res L yb' ys' cs' code') : yb = yb' ∧ ys = ys' ∧ cs = cs' ∧ code = code' := by
  rcases h with ⟨a, rfl, rfl, rfl, rfl⟩ | ⟨a, b, rfl, rfl, rfl, rfl⟩ | ⟨a, b, c, rfl, rfl, rfl, rfl⟩ | ⟨x, a, b, rfl, rfl, rfl, rfl⟩ <;>
  rcases h' with ⟨a', rfl, rfl, rfl, rfl⟩ | ⟨a', b', rfl, rfl, rfl, rfl⟩ | ⟨a', b', c', rfl, rfl, rfl, rfl⟩ | ⟨x', a', b', rfl, rfl, rfl, rfl⟩
  · exact ⟨rfl, rfl, rfl, rfl⟩
  · omega
  · omega
  · have := stmL_len8 x'; rw [b'] at this; omega
  · omega
  · exact ⟨rfl, rfl, rfl, rfl⟩
  · exact absurd b' b
  · exact absurd (b' ▸ stmL_ok x') b
  · omega
  · exact absurd b b'
  · exact ⟨rfl, rfl, rfl, rfl⟩
  · exact absurd b' (c x' a')
  · have := stmL_len8 x; rw [b] at this; omega
  · exact absurd (b ▸ stmL_ok x) b'
  · exact absurd b (c' x a)
  · obtain rfl := stmL_inj a a' (b.trans b'.symm)
    exact ⟨rfl, rfl, rfl, rfl⟩
theorem res_len {L : List Int} {yb ys : ByteArray} {cs : List Chg} {code : Int} (h : Res L yb ys cs code) : cs.length ≤ 100000 := by
  rcases h with ⟨a, rfl, rfl, rfl, rfl⟩ | ⟨a, b, rfl, rfl, rfl, rfl⟩ | ⟨a, b, c, rfl, rfl, rfl, rfl⟩ | ⟨x, a, b, rfl, rfl, rfl, rfl⟩
  · simp
  · simp
  · simp
  · have := a.len; omega
theorem norm {w : World} {cell : World → Value → List Chg → Prop} {L : List Int} {r : Ending} {w' : World} (hz : cell w' (.slice none 0 0) []) (h : TellsReadS w cell L (.agg #[.string ⟨#[]⟩, .string ⟨#[]⟩, .slice none 0 0]) r w') :
    Below w.heap.size w w' ∧ ∃ yb ys cs code v, Res L yb ys cs code ∧ r = .returned (.tuple #[.agg #[.string yb, .string ys, v], .int .i64 code]) ∧ cell w' v cs := by
  obtain ⟨hb, h⟩ := h
  refine ⟨hb, ?_⟩
  rcases h with ⟨a, h⟩ | ⟨a, b, h⟩ | ⟨a, b, c, h⟩ | ⟨x, v, a, b, h, d⟩
  · exact ⟨_, _, [], 10, _, .inl ⟨a, rfl, rfl, rfl, rfl⟩, h, hz⟩
  · exact ⟨_, _, [], 12, _, .inr (.inl ⟨a, b, rfl, rfl, rfl, rfl⟩), h, hz⟩
  · exact ⟨_, _, [], 11, _, .inr (.inr (.inl ⟨a, b, c, rfl, rfl, rfl, rfl⟩)), h, hz⟩
  · exact ⟨x.base, x.snap, x.l, 0, v, .inr (.inr (.inr ⟨x, a, b, rfl, rfl, rfl, rfl⟩)), h, d⟩
theorem norm_S {w : World} {L : List Int} {r : Ending} {w' : World} (h : TellsReadS w (cellS w) L (.agg Z79) r w') :
    Below w.heap.size w w' ∧ ∃ yb ys cs code v, Res L yb ys cs code ∧ r = .returned (.tuple #[.agg #[.string yb, .string ys, v], .int .i64 code]) ∧ cellS w w' v cs :=
  norm ⟨none, 0, [], rfl, ⟨Kd.C_nil _ _, rfl, fun i hi => absurd hi (Nat.not_lt_zero _)⟩⟩ h
theorem norm_F {w : World} {L : List Int} {r : Ending} {w' : World} (h : TellsReadS w (cellF w) L (.agg Z86) r w') :
    Below w.heap.size w w' ∧ ∃ yb ys cs code v, Res L yb ys cs code ∧ r = .returned (.tuple #[.agg #[.string yb, .string ys, v], .int .i64 code]) ∧ cellF w w' v cs :=
  norm (Kd.R_nil _ _ _ _ _) h
/-- The least stream. -/
def oneS : Stm := ⟨⟨#[]⟩, ⟨#[115]⟩, []⟩
theorem one_right : RightS oneS := ⟨by decide, by decide, by decide, fun i c h => by simp [oneS] at h⟩
theorem one_body : bodyL oneS = [83, 66, 88, 83, 0, 1, 115, 0] := by
  have e0 : shortL 0 = [0] := shortL_small (by decide)
  have e1 : shortL 1 = [1] := shortL_small (by decide)
  have b0 : bytesOf ⟨#[]⟩ = [] := by decide +kernel
  have b1 : bytesOf ⟨#[115]⟩ = [115] := by decide +kernel
  show [83, 66, 88, 83] ++ (shortL 0 ++ bytesOf ⟨#[]⟩) ++ (shortL 1 ++ bytesOf ⟨#[115]⟩) ++ shortL 0 ++ [] = _
  rw [e0, e1, b0, b1]
  rfl
theorem one_len : (stmL oneS).length = 12 := by rw [stmL_len, one_body]; rfl
theorem one_take : (stmL oneS).take 8 = [83, 66, 88, 83, 0, 1, 115, 0] := by rw [stmL, one_body]; rfl
theorem one_out : outS oneS = stmL oneS := by rw [outS, rightB_true one_right]; rfl
theorem one_code : codeS oneS = 0 := by rw [codeS, rightB_true one_right]; rfl
theorem one_str : strOfNums [83, 66, 88, 83, 0, 1, 115, 0] = ⟨#[83, 66, 88, 83, 0, 1, 115, 0]⟩ := by decide +kernel
end Go.Proofs.Ytfefpbnhpncmlaa.StmX
