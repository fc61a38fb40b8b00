/- Own texts, one behind the other: CodL CatL Shelf CodA CodB CodC PtrA PtrB PtrE PtrF PtrG PtrH Agg PtrI PtrK PtrJ PtrL. -/
import Derived.Shelf.Strconv.Itoa0
import Derived.Test.YtfefpbnhpncmlaaProg
import Derived.Test.YtfefpbnhpncmlaaB8
import Derived.Lib.EndianBits
import Derived.Deep.WholeRow
import Derived.Deep.RegionHeld3
import Derived.Laws.Rows
import Derived.Laws.StructEq
import Derived.Below
import Derived.WalkKit
import Derived.WalkSpells
import Derived.WalkSmall
import Derived.KernelRfl
import Derived.Laws.Tables
import Derived.OwnWalk
import Derived.Deep.MidRow
import Derived.Laws.CopyOwn
import Derived.Laws.Cover3
/- Bytes of numbers: plain laws of lists, no condition but what each states. -/
namespace Go.Proofs.Ytfefpbnhpncmlaa.CodL

/-- All are bytes. -/
def Byt (l : List Int) : Prop := ∀ x ∈ l, 0 ≤ x ∧ x < 256
theorem Byt.take {l : List Int} (h : Byt l) (n : Nat) : Byt (l.take n) := fun x hx => h x (List.mem_of_mem_take hx)
theorem Byt.drop {l : List Int} (h : Byt l) (n : Nat) : Byt (l.drop n) := fun x hx => h x (List.mem_of_mem_drop hx)
theorem Byt.append {l r : List Int} (h : Byt l) (h2 : Byt r) : Byt (l ++ r) := fun x hx => (List.mem_append.1 hx).elim (h x) (h2 x)
theorem Byt.getD {l : List Int} (h : Byt l) (i : Nat) : 0 ≤ l.getD i 0 ∧ l.getD i 0 < 256 := by
  by_cases hi : i < l.length
  · have : l.getD i 0 = l[i] := by simp [hi]
    rw [this]
    exact h _ (List.getElem_mem hi)
  · have : l.getD i 0 = 0 := by simp [Nat.not_lt.1 hi]
    rw [this]
    omega

/-- So many bytes of a number, the lowest first. -/
def fixedL (size : Nat) (n : Int) : List Int := (List.range size).map fun i => n / 256 ^ i % 256
theorem fixedL_succ (k : Nat) (n : Int) : fixedL (k + 1) n = fixedL k n ++ [n / 256 ^ k % 256] := by simp [fixedL, List.range_succ]
theorem fixedL_len (k : Nat) (n : Int) : (fixedL k n).length = k := by simp [fixedL]
theorem fixedL_byt (k : Nat) (n : Int) : Byt (fixedL k n) := by
  intro x hx
  obtain ⟨i, _, rfl⟩ := List.mem_map.1 hx
  omega
theorem fixedL_cons (k : Nat) (n : Int) : fixedL (k + 1) n = n % 256 :: fixedL k (n / 256) := by
  induction k with
  | zero => simp [fixedL, List.range_succ]
  | succ k ih =>
    rw [fixedL_succ, ih, fixedL_succ]
    simp only [List.cons_append]
    congr 3
    rw [Int.pow_succ, Int.mul_comm, Int.ediv_ediv_of_nonneg (by decide)]

/-- What bytes tell, the lowest first. -/
def leL : List Int → Int
  | [] => 0
  | b :: r => b + 256 * leL r
theorem leL_snoc (l : List Int) (b : Int) : leL (l ++ [b]) = leL l + 256 ^ l.length * b := by
  induction l with
  | nil => simp [leL]
  | cons a l ih =>
    simp only [List.cons_append, leL, ih, List.length_cons, Int.pow_succ]
    rw [Int.mul_add, ← Int.add_assoc, Int.mul_comm (256 ^ l.length) 256, Int.mul_assoc]
theorem leL_bound {l : List Int} (h : Byt l) : 0 ≤ leL l ∧ leL l < 256 ^ l.length := by
  induction l with
  | nil => simp [leL]
  | cons a l ih =>
    have h1 := h a (by simp)
    have h2 := ih (fun x hx => h x (by simp [hx]))
    simp only [leL, List.length_cons, Int.pow_succ]
    omega
theorem leL_fixedL (k : Nat) (n : Int) : leL (fixedL k n) = n % 256 ^ k := by
  induction k generalizing n with
  | zero => simp [fixedL, leL, Int.emod_one]
  | succ k ih =>
    rw [fixedL_cons, leL, ih, Int.pow_succ, Int.mul_comm (256 ^ k) 256]
    have hq : (0 : Int) < 256 ^ k := Int.pow_pos (by decide)
    generalize (256 : Int) ^ k = q at *
    have h1 := Int.mul_ediv_add_emod (n / 256) q
    have h2 := Int.mul_ediv_add_emod n 256
    have h3 := Int.emod_nonneg (n / 256) (show q ≠ 0 by omega)
    have h4 := Int.emod_lt_of_pos (n / 256) hq
    have e : n = (n % 256 + 256 * (n / 256 % q)) + 256 * q * (n / 256 / q) := by
      rw [Int.mul_assoc]
      omega
    have h5 : 0 ≤ n % 256 + 256 * (n / 256 % q) := by omega
    have h6 : n % 256 + 256 * (n / 256 % q) < 256 * q := by omega
    generalize hr : n % 256 + 256 * (n / 256 % q) = r at *
    rw [e, Int.add_mul_emod_self_left, Int.emod_eq_of_lt h5 h6]
theorem fixedL_leL {l : List Int} (h : Byt l) : fixedL l.length (leL l) = l := by
  induction l with
  | nil => rfl
  | cons a l ih =>
    have h1 := h a (by simp)
    have h2 := ih (fun x hx => h x (by simp [hx]))
    rw [List.length_cons, fixedL_cons, leL]
    rw [show (a + 256 * leL l) % 256 = a by omega, show (a + 256 * leL l) / 256 = leL l by omega, h2]

/-- A number in as few bytes as it needs. -/
def shortL (n : Nat) : List Int := if n < 128 then [(n : Int)] else ((n % 128 + 128 : Nat) : Int) :: shortL (n / 128)
termination_by n
theorem shortL_small {n : Nat} (h : n < 128) : shortL n = [(n : Int)] := by rw [shortL, if_pos h]
theorem shortL_more {n : Nat} (h : ¬ n < 128) : shortL n = ((n % 128 + 128 : Nat) : Int) :: shortL (n / 128) := by rw [shortL, if_neg h]
def glen (n : Nat) : Nat := (shortL n).length
theorem glen_small {n : Nat} (h : n < 128) : glen n = 1 := by rw [glen, shortL_small h]; rfl
theorem glen_more {n : Nat} (h : ¬ n < 128) : glen n = glen (n / 128) + 1 := by rw [glen, shortL_more h]; rfl
theorem glen_pos (n : Nat) : 0 < glen n := by
  by_cases h : n < 128
  · rw [glen_small h]; omega
  · rw [glen_more h]; omega
theorem shortL_byt (n : Nat) : Byt (shortL n) := by
  induction n using shortL.induct with
  | case1 n h => rw [shortL_small h]; intro x hx; simp at hx; omega
  | case2 n h ih =>
    rw [shortL_more h]
    intro x hx
    rcases List.mem_cons.1 hx with rfl | hx
    · omega
    · exact ih x hx
theorem glen_one {n : Nat} (h : glen n = 1) : n < 128 := by
  by_cases h1 : n < 128
  · exact h1
  · rw [glen_more h1] at h
    have := glen_pos (n / 128)
    omega
theorem glen_le {n : Nat} {k : Nat} (hk : 0 < k) (h : n < 128 ^ k) : glen n ≤ k := by
  induction k generalizing n with
  | zero => omega
  | succ k ih =>
    by_cases h1 : n < 128
    · rw [glen_small h1]; omega
    · rw [glen_more h1]
      have h2 : n / 128 < 128 ^ k := by
        rw [Nat.pow_succ] at h
        exact Nat.div_lt_of_lt_mul (by rw [Nat.mul_comm]; exact h)
      by_cases hk0 : k = 0
      · subst hk0
        simp at h2
        omega
      · have := ih (by omega) h2
        omega
theorem glen_ten {n : Nat} (h : n < 18446744073709551616) : glen n ≤ 10 := glen_le (by decide) (by omega)

/-- How many bits a number has. -/
def blen (n : Nat) : Nat := if n = 0 then 0 else Nat.log2 n + 1
theorem log2_128 {n : Nat} (h : ¬ n < 128) : Nat.log2 n = Nat.log2 (n / 128) + 7 := by
  have hn : n ≠ 0 := by omega
  have hm : n / 128 ≠ 0 := by omega
  have h1 : 2 ^ Nat.log2 (n / 128) ≤ n / 128 := (Nat.le_log2 hm).1 (Nat.le_refl _)
  have h2 : n / 128 < 2 ^ (Nat.log2 (n / 128) + 1) := (Nat.log2_lt hm).1 (Nat.lt_succ_self _)
  apply Nat.le_antisymm
  · have : n < 2 ^ (Nat.log2 (n / 128) + 7 + 1) := by
      rw [show Nat.log2 (n / 128) + 7 + 1 = (Nat.log2 (n / 128) + 1) + 7 by omega, Nat.pow_add]
      omega
    have := (Nat.log2_lt hn).2 this
    omega
  · refine (Nat.le_log2 hn).2 ?_
    rw [Nat.pow_add]
    omega
theorem log2_small {n : Nat} (h : n < 128) : Nat.log2 n ≤ 6 := by
  by_cases hn : n = 0
  · subst hn; decide
  · have := (Nat.log2_lt (k := 7) hn).2 (by omega)
    omega
theorem glen_blen (n : Nat) : glen n = max 1 ((blen n + 6) / 7) := by
  induction n using shortL.induct with
  | case1 n h =>
    rw [glen_small h]
    have := log2_small h
    unfold blen
    split <;> omega
  | case2 n h ih =>
    rw [glen_more h, ih]
    have := log2_128 h
    unfold blen
    rw [if_neg (by omega), if_neg (by omega)]
    omega

/-- How many bytes from the first on go on. -/
def lead : List Int → Nat
  | [] => 0
  | b :: r => if 128 ≤ b then lead r + 1 else 0
theorem lead_le (l : List Int) : lead l ≤ l.length := by
  induction l with
  | nil => simp [lead]
  | cons b r ih => simp only [lead, List.length_cons]; split <;> omega
theorem lead_lt {l : List Int} {i : Nat} (h : i < lead l) : 128 ≤ l.getD i 0 := by
  induction l generalizing i with
  | nil => simp [lead] at h
  | cons b r ih =>
    simp only [lead] at h
    split at h
    · cases i with
      | zero => simpa using ‹128 ≤ b›
      | succ i => simpa using ih (by omega)
    · omega
theorem lead_at {l : List Int} (h : lead l < l.length) : l.getD (lead l) 0 < 128 := by
  induction l with
  | nil => simp [lead] at h
  | cons b r ih =>
    simp only [lead, List.length_cons] at h ⊢
    split at h
    · rename_i hb
      rw [if_pos hb]
      simpa using ih (by omega)
    · rename_i hb
      rw [if_neg hb]
      simp
      omega
theorem lead_ge {l : List Int} {i : Nat} (hi : i ≤ l.length) (h : ∀ j, j < i → 128 ≤ l.getD j 0) : i ≤ lead l := by
  rcases Nat.lt_or_ge (lead l) i with h1 | h1
  · have h2 := lead_at (l := l) (by omega)
    have := h _ h1
    omega
  · exact h1
/-- What groups of seven bits tell, the lowest first. -/
def sevenL : List Int → Int
  | [] => 0
  | b :: r => b % 128 + 128 * sevenL r
theorem sevenL_snoc (l : List Int) (b : Int) : sevenL (l ++ [b]) = sevenL l + 128 ^ l.length * (b % 128) := by
  induction l with
  | nil => simp [sevenL]
  | cons a l ih =>
    simp only [List.cons_append, sevenL, ih, List.length_cons, Int.pow_succ]
    rw [Int.mul_add, ← Int.add_assoc, Int.mul_comm (128 ^ l.length) 128, Int.mul_assoc]
theorem sevenL_bound (l : List Int) : 0 ≤ sevenL l ∧ sevenL l < 128 ^ l.length := by
  induction l with
  | nil => simp [sevenL]
  | cons a l ih =>
    simp only [sevenL, List.length_cons, Int.pow_succ]
    omega

/-- Reading a short number: the number, how many bytes it has, and the error's number. -/
def readShort (b : List Int) : Int × Nat × Int :=
  if 10 ≤ lead b then (0, 0, 11)
  else if lead b = b.length then (0, 0, 10)
  else if (lead b = 9 ∧ 1 < b.getD 9 0) ∨ (0 < lead b ∧ b.getD (lead b) 0 = 0) then (0, 0, 11)
  else (sevenL (b.take (lead b + 1)), lead b + 1, 0)

theorem lead_shortL (n : Nat) (r : List Int) : lead (shortL n ++ r) = glen n - 1 := by
  induction n using shortL.induct with
  | case1 n h => rw [shortL_small h, glen_small h]; simp only [List.cons_append, lead]; rw [if_neg (by omega)]
  | case2 n h ih =>
    rw [shortL_more h, glen_more h]
    simp only [List.cons_append, lead]
    rw [if_pos (by omega), ih]
    have := glen_pos (n / 128)
    omega
theorem sevenL_shortL (n : Nat) : sevenL (shortL n) = n := by
  induction n using shortL.induct with
  | case1 n h => rw [shortL_small h]; simp only [sevenL]; omega
  | case2 n h ih =>
    rw [shortL_more h]
    simp only [sevenL, ih]
    omega
theorem shortL_last (n : Nat) : (0 < n → (shortL n).getD (glen n - 1) 0 ≠ 0) ∧ (glen n = 10 → n < 18446744073709551616 → (shortL n).getD 9 0 ≤ 1) := by
  have key : ∀ k n, glen n = k + 1 → (shortL n).getD k 0 = ((n / 128 ^ k : Nat) : Int) := by
    intro k
    induction k with
    | zero => intro n h; rw [shortL_small (glen_one h)]; simp
    | succ k ih =>
      intro n h
      have h1 : ¬ n < 128 := fun h1 => by rw [glen_small h1] at h; omega
      rw [glen_more h1] at h
      rw [shortL_more h1]
      have := ih (n / 128) (by omega)
      simp only [List.getD_cons_succ]
      rw [this, Nat.div_div_eq_div_mul, Nat.pow_succ, Nat.mul_comm]
  have low : ∀ k n, glen n = k + 1 → 0 < k → 128 ^ k ≤ n := by
    intro k
    induction k with
    | zero => intro n _ h; omega
    | succ k ih =>
      intro n h _
      have h1 : ¬ n < 128 := fun h1 => by rw [glen_small h1] at h; omega
      rw [glen_more h1] at h
      by_cases hk : k = 0
      · subst hk; simp; omega
      · have := ih (n / 128) (by omega) (by omega)
        rw [Nat.pow_succ]
        omega
  constructor
  · intro hn
    have hg := glen_pos n
    rw [key (glen n - 1) n (by omega)]
    by_cases h : glen n - 1 = 0
    · rw [h]; simp; omega
    · have h3 := low (glen n - 1) n (by omega) (by omega)
      have : 0 < n / 128 ^ (glen n - 1) := Nat.div_pos h3 (Nat.pos_of_ne_zero (by simp))
      omega
  · intro hg hn
    rw [key 9 n hg]
    have : n / 128 ^ 9 < 2 := by
      rw [Nat.div_lt_iff_lt_mul (by decide)]
      omega
    omega
theorem readShort_shortL (n : Nat) (hn : n < 18446744073709551616) (r : List Int) : readShort (shortL n ++ r) = ((n : Int), glen n, 0) := by
  have hg := glen_pos n
  have h10 := glen_ten hn
  have hl : (shortL n).length = glen n := rfl
  have hlast := shortL_last n
  have hd : ∀ i, i < glen n → (shortL n ++ r).getD i 0 = (shortL n).getD i 0 := by
    intro i hi
    simp [List.getElem?_append_left, hl, hi]
  unfold readShort
  rw [lead_shortL, if_neg (by omega), if_neg (by simp only [List.length_append, hl]; omega), if_neg ?_]
  · rw [show glen n - 1 + 1 = glen n by omega]
    rw [List.take_append_of_le_length (by omega), List.take_of_length_le (by omega), sevenL_shortL]
  · rintro (⟨h1, h2⟩ | ⟨h1, h2⟩)
    · rw [hd 9 (by omega)] at h2
      have := hlast.2 (by omega) hn
      omega
    · rw [hd _ (by omega)] at h2
      refine hlast.1 ?_ h2
      rcases Nat.eq_zero_or_pos n with rfl | h
      · rw [glen_small (by omega)] at h1; omega
      · exact h
theorem readShort_used (b : List Int) : (readShort b).2.1 ≤ b.length := by
  have := lead_le b
  unfold readShort
  split
  · simp
  split
  · simp
  split
  · simp
  · simp only
    omega
theorem readShort_bound {b : List Int} (hb : Byt b) : 0 ≤ (readShort b).1 ∧ (readShort b).1 < 18446744073709551616 := by
  unfold readShort
  split
  · simp
  split
  · simp
  split
  · simp
  · rename_i h1 h2 h3
    simp only
    have hle := lead_le b
    have hs := sevenL_bound (b.take (lead b + 1))
    have hl : (b.take (lead b + 1)).length = lead b + 1 := by rw [List.length_take]; omega
    rw [hl] at hs
    refine ⟨hs.1, ?_⟩
    by_cases h9 : lead b = 9
    · have e : b.take (9 + 1) = b.take 9 ++ [b.getD 9 0] := by
        rw [List.take_add_one]
        simp [show 9 < b.length by omega]
      have h4 := sevenL_bound (b.take 9)
      have hl9 : (b.take 9).length = 9 := by rw [List.length_take]; omega
      rw [hl9] at h4
      rw [h9, e, sevenL_snoc, hl9]
      have h5 : ¬ (1 < b.getD 9 0) := fun h => h3 (.inl ⟨h9, h⟩)
      have h6 := hb.getD 9
      rw [Int.emod_eq_of_lt h6.1 (by omega)]
      have : (128 : Int) ^ 9 * b.getD 9 0 ≤ 128 ^ 9 := by
        have : b.getD 9 0 = 0 ∨ b.getD 9 0 = 1 := by omega
        rcases this with h | h <;> rw [h] <;> decide
      have : (128 : Int) ^ 9 = 9223372036854775808 := by decide
      omega
    · have : (128 : Int) ^ (lead b + 1) ≤ 128 ^ 9 := by
        have h8 : lead b + 1 ≤ 9 := by omega
        exact_mod_cast Nat.pow_le_pow_right (n := 128) (by decide) h8
      have : (128 : Int) ^ 9 = 9223372036854775808 := by decide
      omega
end Go.Proofs.Ytfefpbnhpncmlaa.CodL
/- Pointers, values and entries as bytes: plain laws of lists, no condition but what each states. -/
namespace Go.Proofs.Ytfefpbnhpncmlaa.CatL
open Go.Proofs.Ytfefpbnhpncmlaa.CodL

/-- A pointer. -/
structure Ptr where
  at_ : Int
  birth : Int
  len : Int
  crc : Int
  sha : List Int
deriving DecidableEq
def zeroP : Ptr := ⟨0, 0, 0, 0, List.replicate 32 0⟩
def sect (n : Int) : Int := if n < 1 ∨ 65536 < n then 0 else (n + 511) / 512
theorem sect_bound (n : Int) : 0 ≤ sect n ∧ sect n ≤ 128 := by unfold sect; split <;> omega
/-- It is one. -/
def Right (p : Ptr) : Prop := 1 ≤ p.birth ∧ p.birth ≤ 1152921504606846976 ∧ 0 < sect p.len ∧ 2 ≤ p.at_ ∧ p.at_ ≤ 8192 - sect p.len
instance (p : Ptr) : Decidable (Right p) := by unfold Right; exact inferInstance
theorem Right.bounds {p : Ptr} (h : Right p) : 0 ≤ p.at_ ∧ p.at_ < 8192 ∧ 0 ≤ p.birth ∧ p.birth ≤ 1152921504606846976 ∧ 1 ≤ p.len ∧ p.len ≤ 65536 := by
  obtain ⟨h1, h2, h3, h4, h5⟩ := h
  have := sect_bound p.len
  refine ⟨by omega, by omega, by omega, h2, ?_, ?_⟩ <;> (unfold sect at h3; split at h3 <;> omega)
/-- Its parts are of their kinds. -/
structure Ok (p : Ptr) : Prop where
  crc0 : 0 ≤ p.crc
  crc1 : p.crc < 4294967296
  len : p.sha.length = 32
  sha : Byt p.sha
/-- One that may be laid. -/
def Lays (p : Ptr) : Prop := Ok p ∧ (Right p ∨ p = zeroP)
theorem okZero : Ok zeroP := ⟨by decide, by decide, rfl, fun x hx => by
  have := List.eq_of_mem_replicate hx
  omega⟩
theorem Lays.bounds {p : Ptr} (h : Lays p) : 0 ≤ p.at_ ∧ p.at_ < 8192 ∧ 0 ≤ p.birth ∧ p.birth ≤ 1152921504606846976 ∧ 0 ≤ p.len ∧ p.len ≤ 65536 := by
  rcases h.2 with h | rfl
  · have := h.bounds
    omega
  · decide

def ptrL (p : Ptr) : List Int := fixedL 4 p.at_ ++ fixedL 4 p.len ++ fixedL 8 p.birth ++ fixedL 4 p.crc ++ p.sha
theorem ptrL_len {p : Ptr} (h : Ok p) : (ptrL p).length = 52 := by simp [ptrL, fixedL_len, h.len]
theorem ptrL_byt {p : Ptr} (h : Ok p) : Byt (ptrL p) := ((((fixedL_byt _ _).append (fixedL_byt _ _)).append (fixedL_byt _ _)).append (fixedL_byt _ _)).append h.sha

/-- As a machine's number. -/
def s64 (n : Int) : Int := if n < 9223372036854775808 then n else n - 18446744073709551616
/-- What 52 bytes tell, right or not. -/
def rawP (b : List Int) : Ptr := ⟨leL (b.take 4), s64 (leL ((b.drop 8).take 8)), leL ((b.drop 4).take 4), leL ((b.drop 16).take 4), (b.drop 20).take 32⟩
def readP (b : List Int) : Ptr × Int :=
  if b.length < 52 then (zeroP, 10) else if rawP b ≠ zeroP ∧ ¬ Right (rawP b) then (zeroP, 11) else (rawP b, 0)
theorem rawP_ok {b : List Int} (hb : Byt b) (h : 52 ≤ b.length) : Ok (rawP b) := by
  have h1 := leL_bound ((hb.drop 16).take 4)
  have hl : ((b.drop 16).take 4).length = 4 := by simp; omega
  rw [hl] at h1
  refine ⟨h1.1, by have := h1.2; show leL ((b.drop 16).take 4) < 4294967296; simpa using this, ?_, (hb.drop 20).take 32⟩
  show ((b.drop 20).take 32).length = 32
  simp
  omega
theorem rawP_ptrL {p : Ptr} (h : Lays p) (r : List Int) : rawP (ptrL p ++ r) = p := by
  have hb := h.bounds
  obtain ⟨hk, _⟩ := h
  have f4 : ∀ n, (fixedL 4 n).length = 4 := fun n => fixedL_len 4 n
  have f8 : ∀ n, (fixedL 8 n).length = 8 := fun n => fixedL_len 8 n
  have e0 : ptrL p ++ r = fixedL 4 p.at_ ++ (fixedL 4 p.len ++ (fixedL 8 p.birth ++ (fixedL 4 p.crc ++ (p.sha ++ r)))) := by simp [ptrL]
  have d4 : (ptrL p ++ r).drop 4 = fixedL 4 p.len ++ (fixedL 8 p.birth ++ (fixedL 4 p.crc ++ (p.sha ++ r))) := by rw [e0]; exact List.drop_left' (f4 _)
  have d8 : (ptrL p ++ r).drop 8 = fixedL 8 p.birth ++ (fixedL 4 p.crc ++ (p.sha ++ r)) := by
    rw [show 8 = 4 + 4 from rfl, ← List.drop_drop, d4]; exact List.drop_left' (f4 _)
  have d16 : (ptrL p ++ r).drop 16 = fixedL 4 p.crc ++ (p.sha ++ r) := by
    rw [show 16 = 8 + 8 from rfl, ← List.drop_drop, d8]; exact List.drop_left' (f8 _)
  have d20 : (ptrL p ++ r).drop 20 = p.sha ++ r := by
    rw [show 20 = 16 + 4 from rfl, ← List.drop_drop, d16]; exact List.drop_left' (f4 _)
  have t0 : (ptrL p ++ r).take 4 = fixedL 4 p.at_ := by rw [e0]; exact List.take_left' (f4 _)
  have t4 : ((ptrL p ++ r).drop 4).take 4 = fixedL 4 p.len := by rw [d4]; exact List.take_left' (f4 _)
  have t8 : ((ptrL p ++ r).drop 8).take 8 = fixedL 8 p.birth := by rw [d8]; exact List.take_left' (f8 _)
  have t16 : ((ptrL p ++ r).drop 16).take 4 = fixedL 4 p.crc := by rw [d16]; exact List.take_left' (f4 _)
  have t20 : ((ptrL p ++ r).drop 20).take 32 = p.sha := by rw [d20]; exact List.take_left' hk.len
  obtain ⟨a, bi, l, c, s⟩ := p
  unfold rawP
  rw [t0, t4, t8, t16, t20, leL_fixedL, leL_fixedL, leL_fixedL, leL_fixedL]
  have k1 := hk.crc0
  have k2 := hk.crc1
  simp only at hb k1 k2 ⊢
  rw [Int.emod_eq_of_lt (by omega) (by simp; omega), Int.emod_eq_of_lt (by omega) (by simp; omega), Int.emod_eq_of_lt (by omega) (by simp; omega), Int.emod_eq_of_lt (by omega) (by simp; omega)]
  unfold s64
  rw [if_pos (by omega)]
theorem readP_ptrL {p : Ptr} (h : Lays p) (r : List Int) : readP (ptrL p ++ r) = (p, 0) := by
  unfold readP
  rw [rawP_ptrL h, if_neg (by rw [List.length_append, ptrL_len h.1]; omega), if_neg]
  rintro ⟨h1, h2⟩
  rcases h.2 with h3 | h3
  · exact h2 h3
  · exact h1 h3

/-- A value. -/
structure Val where
  blocks : List Ptr
  inn : List Int
def RightV (v : Val) : Prop := v.blocks.length ≤ 8 ∧ v.inn.length ≤ 400 ∧ ∀ p ∈ v.blocks, Right p
structure OkV (v : Val) : Prop where
  blocks : ∀ p ∈ v.blocks, Ok p
  inn : Byt v.inn
def valL (v : Val) : List Int := shortL v.blocks.length ++ v.blocks.flatMap ptrL ++ v.inn
theorem flat_len {l : List Ptr} (h : ∀ p ∈ l, Ok p) : (l.flatMap ptrL).length = 52 * l.length := by
  induction l with
  | nil => rfl
  | cons p l ih =>
    simp only [List.flatMap_cons, List.length_append, List.length_cons]
    rw [ptrL_len (h p (by simp)), ih (fun q hq => h q (by simp [hq]))]
    omega
theorem flat_byt {l : List Ptr} (h : ∀ p ∈ l, Ok p) : Byt (l.flatMap ptrL) := by
  induction l with
  | nil => intro x hx; simp at hx
  | cons p l ih =>
    simp only [List.flatMap_cons]
    exact (ptrL_byt (h p (by simp))).append (ih (fun q hq => h q (by simp [hq])))
theorem valL_byt {v : Val} (h : OkV v) : Byt (valL v) := ((shortL_byt _).append (flat_byt h.blocks)).append h.inn
theorem valL_len {v : Val} (h : OkV v) (hr : RightV v) : (valL v).length ≤ 1000 := by
  have h1 : glen v.blocks.length = 1 := glen_small (by have := hr.1; omega)
  have := hr.1
  have := hr.2.1
  simp only [valL, List.length_append]
  rw [flat_len h.blocks]
  unfold glen at h1
  omega
theorem flat_inj {l m : List Ptr} {r s : List Int} (hl : ∀ p ∈ l, Lays p) (hm : ∀ p ∈ m, Lays p) (hn : l.length = m.length) (h : l.flatMap ptrL ++ r = m.flatMap ptrL ++ s) : l = m ∧ r = s := by
  induction l generalizing m with
  | nil =>
    cases m with
    | nil => exact ⟨rfl, by simpa using h⟩
    | cons => simp at hn
  | cons p l ih =>
    cases m with
    | nil => simp at hn
    | cons q m =>
      simp only [List.flatMap_cons, List.append_assoc] at h
      have hp := hl p (by simp)
      have hq := hm q (by simp)
      have e1 : p = q := by rw [← rawP_ptrL hp (l.flatMap ptrL ++ r), h, rawP_ptrL hq]
      subst e1
      have h2 := List.append_cancel_left h
      obtain ⟨e, f⟩ := ih (fun x hx => hl x (by simp [hx])) (fun x hx => hm x (by simp [hx])) (by simpa using hn) h2
      exact ⟨by rw [e], f⟩
theorem valL_inj {v u : Val} (hv : OkV v) (hu : OkV u) (rv : RightV v) (ru : RightV u) (h : valL v = valL u) : v = u := by
  obtain ⟨a, i⟩ := v
  obtain ⟨b, j⟩ := u
  have l1 := rv.1
  have l2 := ru.1
  simp only [valL, List.append_assoc] at h l1 l2
  have h1 : readShort (shortL a.length ++ (a.flatMap ptrL ++ i)) = readShort (shortL b.length ++ (b.flatMap ptrL ++ j)) := by rw [h]
  rw [readShort_shortL _ (by omega), readShort_shortL _ (by omega)] at h1
  have hn : a.length = b.length := by
    have := congrArg Prod.fst h1
    simp only at this
    exact_mod_cast this
  rw [hn] at h
  have h2 := List.append_cancel_left h
  obtain ⟨rfl, rfl⟩ := flat_inj (fun p hp => ⟨hv.blocks p hp, .inl (rv.2.2 p hp)⟩) (fun p hp => ⟨hu.blocks p hp, .inl (ru.2.2 p hp)⟩) hn h2
  rfl
end Go.Proofs.Ytfefpbnhpncmlaa.CatL
/-
  DERIVED: THE SHELF's CONTRACTS AT THIS DUMP, IN PLAIN WORDS (tools/lay-plain.mjs out of 'TryShelf.lean', which tools/lay-shelf.mjs wrote): THE SAME DECLARATIONS UNDER THE SAME NAMES: 'import', 'namespace', 'open', 'def', 'theorem' AND NOTHING ELSE: no command of the shelf's: FOR A HAND-IN. Each laying: the table of numbers ('.._ren') and one theorem, a field a fact of the dump's own or the kernel's comparison; each contract: ONE APPLICATION.
-/
namespace Go.Proofs
open Go.Shelf
def Try.lays129_ren : Go.Shelf.Ren := ⟨fun | 129 => 125 | n => n, fun | 53 => 103 | 3 => 3 | 4 => 4 | 46 => 93 | 5 => 5 | 9 => 9 | n => n, fun | n => n⟩
theorem Try.lays129 : Go.Proofs.Lays.n129 Try.prog Try.lays129_ren := {
  mixed := by kernel_rfl
  f129 := Try.func125.trans (congrArg some (by kernel_rfl))
  t3 := Try.underlying3
  a3 := Try.isAgg3
  z3 := Try.sizeOf3
  v3 := Try.zeroValue3
  t4 := Try.underlying4
  a4 := Try.isAgg4
  z4 := Try.sizeOf4
  v4 := Try.zeroValue4
  t5 := Try.underlying5
  a5 := Try.isAgg5
  z5 := Try.sizeOf5
  v5 := Try.zeroValue5
  t9 := Try.underlying9
  a9 := Try.isAgg9
  z9 := Try.sizeOf9
  v9 := Try.zeroValue9
  t46 := Try.underlying93
  a46 := Try.isAgg93
  z46 := Try.sizeOf93
  v46 := Try.zeroValue93
  t53 := Try.underlying103
  a53 := Try.isAgg103
  z53 := Try.sizeOf103
  v53 := Try.zeroValue103 }
/-- bits.Len64: "Len64 returns the minimum number of bits required to represent x; the result is 0 for x == 0.": IT RETURNS 'Lib.bitLen x'; the world is as it was. ('h0', 'h1': x is a uint64.) (LAID: no walk: one application.) -/
theorem Try.bits_Len64 (x : Int) (w : World) (h0 : 0 ≤ x) (h1 : x ≤ 18446744073709551615) :
    Calls Try.prog 125 #[.int .u64 x] w fun e w' => e = .returned (.int .i64 (Lib.bitLen x.toNat)) ∧ w' = w := Any.bits_Len64 Try.lays129 x w h0 h1
end Go.Proofs
/- codec.Short, codec.Fixed, codec.Take, codec.ReadShort: contracts; the numbers are what their kinds hold. -/
namespace Go.Proofs.Ytfefpbnhpncmlaa.CodA
open Go.RowKit Go.Proofs.Ytfefpbnhpncmlaa.B8 Go.Proofs.Ytfefpbnhpncmlaa.CodL Go.Proofs.Ytfefpbnhpncmlaa.PBaseSigns Go.Proofs.YtfefpbnhpncmlaaW.PrintWords Go.Proofs.YtfefpbnhpncmlaaW.PrintLast Go.Proofs.YtfefpbnhpncmlaaW.PrintMore
attribute [local go_sem] max2_int min2_int max_two min_two
set_option linter.unusedVariables false
set_option linter.unusedSimpArgs false

theorem blen_half {n : Nat} (h : n ≠ 0) : blen n = 1 + blen (n / 2) := by
  unfold blen
  rw [if_neg h]
  by_cases h1 : n / 2 = 0
  · rw [if_pos h1]
    have : n = 1 := by omega
    subst this
    decide
  · rw [if_neg h1]
    have h2 : 2 ≤ n := by omega
    rw [show Nat.log2 n = Nat.log2 (n / 2) + 1 by rw [Nat.log2_def n, if_pos h2]]
    omega
theorem bitLen_blen (f n : Nat) (h : n < 2 ^ f) : Lib.bitLenAux f n = blen n := by
  induction f generalizing n with
  | zero =>
    have : n = 0 := by simpa using h
    subst this
    rfl
  | succ f ih =>
    unfold Lib.bitLenAux
    by_cases h0 : n = 0
    · subst h0; rfl
    · rw [if_neg h0, ih (n / 2) (by rw [Nat.pow_succ] at h; omega), blen_half h0]
theorem bitLen_eq (n : Nat) (h : n < 18446744073709551616) : Lib.bitLen n = blen n := bitLen_blen 64 n (by omega)
theorem blen_le (n : Nat) (h : n < 18446744073709551616) : blen n ≤ 64 := by
  unfold blen
  split
  · omega
  · rename_i h0
    have := (Nat.log2_lt (k := 64) h0).2 (by omega)
    omega

theorem ret_int {k : IntKind} {a b : Int} (h : a = b) : Ending.returned (.int k a) = .returned (.int k b) := by rw [h]
theorem len_calls (n : Nat) (h : n < 18446744073709551616) (w : World) : Calls Try.prog 125 #[.int .u64 (n : Int)] w fun e w' => e = .returned (.int .i64 (blen n : Int)) ∧ w = w' := by
  refine (Try.bits_Len64 (n : Int) w (by omega) (by omega)).mono ?_
  rintro e w' ⟨rfl, rfl⟩
  refine ⟨?_, rfl⟩
  rw [Int.toNat_natCast, bitLen_eq n h]

theorem groups_calls (n : Nat) (h : n < 18446744073709551616) (w : World) : Calls Try.prog 117 #[.int .u64 (n : Int)] w fun e w' => e = .returned (.int .i64 (glen n : Int)) ∧ w = w' := by
  have hb := blen_le n h
  have hg := Aside0.mk (glen_blen n)
  have hl := Aside0.mk (len_calls n h)
  clear h
  go_enter Try.func117, Try.ntmps117
  go_wp2_with fail
  refine (hl.out _).mono ?_
  rintro e w' ⟨rfl, rfl⟩
  generalize blen n = b at *
  go_wp2
  all_goals
    go_ret
    refine ⟨?_, rfl⟩
    rw [hg.out]
    exact ret_int (by omega)

/-- A row of bytes is told that the call itself made. -/
def Tells (w : World) (l : List Int) (e : Ending) (w' : World) : Prop := ∃ v, e = .returned v ∧ R8 w' w.heap.size v l ∧ Below w.heap.size w w'

theorem wraps_u8 (n : Int) (h₀ : 0 ≤ n) (h₁ : n < 2 ^ 8) : IntKind.u8.wrap n = n := by rw [IntKind.wrap_u8]; omega
theorem or_fin : ∀ a : Fin 256, (a.val ||| 128) = a.val % 128 + 128 := by decide +kernel
theorem or128 (m : Nat) : bits .or .u8 ((m : Int) % 256) 128 = (m : Int) % 128 + 128 := by
  have h := (bits_nat .u8 8 (by decide) wraps_u8 (m % 256) 128 (by omega) (by decide)).2
  have h2 := or_fin ⟨m % 256, by omega⟩
  simp only at h2
  rw [show ((m : Int) % 256) = ((m % 256 : Nat) : Int) by omega, show (128 : Int) = ((128 : Nat) : Int) from rfl, h, h2]
  omega

set_option maxRecDepth 100000 in
set_option maxHeartbeats 1000000 in
theorem short_calls (A : Option Addr) (c : Nat) (l : List Int) (n : Nat) (w : World) (hr : C8 w A l.length l) (hm : l.length ≤ 1000000) (hn : n < 18446744073709551616) :
    Calls Try.prog 89 #[.slice A l.length c, .int .u64 (n : Int)] w (Tells w (l ++ shortL n)) := by
  have HR := Aside0.mk (Kd.C_below hr (below_alloc (Below.refl w.heap.size w) (.cells #[] 5)))
  have HO := Aside0.mk (R8_new w w.heap.size (Nat.le_refl _) [] (by simp))
  have HB := Aside0.mk (below_alloc (Below.refl w.heap.size w) (.cells #[] 5))
  have hs : w.heap.size ≤ (w.alloc (.cells #[] 5)).heap.size := by simp
  have hg := Aside0.mk (groups_calls n hn)
  clear hr
  go_enter Try.func89, Try.ntmps89
  go_wp2_with (at_builtin; refine appRow (w0 := w) w.heap.size rfl (.tmp 7) (.tmp 8) rfl _ [] l A l.length c rfl rfl HO.out HR.out HB.out hs (by simp; omega) ?_; intro v1 w1 ho hb hgr; have HO1 := Aside0.mk ho; have HB1 := Aside0.mk hb; clear ho hb hgr)
  refine (hg.out _).mono ?_
  rintro e w2 ⟨rfl, rfl⟩
  clear HO HR HB hs hg
  have hp1 := glen_pos n
  have hp2 := glen_ten hn
  go_wp2
  go_loopw [1, 5, 6] (fun v1 v5 v6 wr => ∃ (m : Nat) (out : List Int), v1 = .int .u64 (m : Int) ∧ v6 = .int .i64 ((glen m : Int) - 1) ∧ m ≤ n ∧ Aside0 (out ++ shortL m = l ++ shortL n) ∧ Aside0 (R8 wr w.heap.size v5 out) ∧ Aside0 (Below w.heap.size w wr)) (fun _ _ v _ => (intOf v).toNat)
  case atStart => exact ⟨n, l, rfl, rfl, Nat.le_refl _, ⟨rfl⟩, HO1, HB1⟩
  case round =>
    obtain ⟨m, out, rfl, rfl, hmn, he, HO, HB⟩ := hrel
    have hlen : out.length ≤ 1000010 := by
      have h1 := congrArg List.length he.out
      simp only [List.length_append] at h1
      have h2 : (shortL n).length = glen n := rfl
      omega
    have hq1 := glen_pos m
    have hq2 := glen_ten (n := m) (by omega)
    clear HO1 HB1
    have hs := HB.out.size
    by_cases hlt : m < 128
    · have hg1 := glen_small hlt
      have HS := Aside0.mk (shortL_small hlt)
      rw [hg1]
      go_wp2_with (at_builtin; refine app1 (w0 := w) w.heap.size rfl (.tmp 25) (.tmp 28) rfl _ out _ rfl rfl HO.out HB.out hs (by omega) ?_; intro v2 w2 ho hb; have HO2 := Aside0.mk ho; have HB2 := Aside0.mk hb; clear ho hb)
      go_ret
      refine ⟨_, rfl, ?_, HB2.out⟩
      have h3 := he.out
      rw [HS.out] at h3
      rw [← h3]
      exact HO2.out
    · have hgm := glen_more hlt
      have hg3 := glen_pos (m / 128)
      have HS := Aside0.mk (shortL_more hlt)
      have hgt : (0 : Int) < (glen m : Int) - 1 := by omega
      go_wp2_with (at_builtin; refine app1 (w0 := w) w.heap.size rfl (.tmp 17) (.tmp 21) rfl _ out _ rfl rfl HO.out HB.out hs (by omega) ?_; intro v2 w2 ho hb; have HO2 := Aside0.mk ho; have HB2 := Aside0.mk hb; clear ho hb)
      go_roundw
      case rel => exact ⟨m / 128, _, by go_num, rfl, by omega, ⟨by rw [List.append_assoc, ← he.out, HS.out, or128]; simp⟩, HO2, HB2⟩
      case measure => simp [intOf]; omega
end Go.Proofs.Ytfefpbnhpncmlaa.CodA
/- codec.Fixed, codec.Take: contracts. -/
namespace Go.Proofs.Ytfefpbnhpncmlaa.CodB
open Go.RowKit Go.Proofs.Ytfefpbnhpncmlaa.B8 Go.Proofs.Ytfefpbnhpncmlaa.CodL Go.Proofs.Ytfefpbnhpncmlaa.CodA Go.Proofs.Ytfefpbnhpncmlaa.PBaseSigns Go.Proofs.YtfefpbnhpncmlaaW.PrintWords Go.Proofs.YtfefpbnhpncmlaaW.PrintLast Go.Proofs.YtfefpbnhpncmlaaW.PrintMore
attribute [local go_sem] max2_int min2_int max_two min_two
set_option linter.unusedVariables false
set_option linter.unusedSimpArgs false

theorem pow256 (j : Nat) : (2 : Int) ^ (8 * j) = 256 ^ j := by rw [Int.pow_mul]; rfl

theorem flat_fixed_len (size : Nat) (l : List Int) : (l.flatMap (fixedL size)).length = l.length * size := by
  induction l with
  | nil => simp
  | cons a l ih => rw [List.flatMap_cons, List.length_append, fixedL_len, ih, List.length_cons, Nat.add_mul]; omega

set_option maxRecDepth 100000 in
set_option maxHeartbeats 2000000 in
theorem fixed_calls (A : Option Addr) (c : Nat) (l : List Int) (size : Nat) (B : Option Addr) (d : Nat) (ns : List Int) (w : World) (hr : C8 w A l.length l) (hm : l.length ≤ 1000000) (h1 : 1 ≤ size) (h8 : size ≤ 8)
    (hq : Kd.C (Kd.int .u64) w B ns.length ns) (hk : ns.length ≤ 4) (hn : ∀ x ∈ ns, 0 ≤ x ∧ x < 18446744073709551616) :
    Calls Try.prog 90 #[.slice A l.length c, .int .i64 (size : Int), .slice B ns.length d] w (Tells w (l ++ ns.flatMap (fixedL size))) := by
  have HR := Aside0.mk (Kd.C_below hr (below_alloc (Below.refl w.heap.size w) (.cells #[] 5)))
  have HO := Aside0.mk (R8_new w w.heap.size (Nat.le_refl _) [] (by simp))
  have HB := Aside0.mk (below_alloc (Below.refl w.heap.size w) (.cells #[] 5))
  have hs : w.heap.size ≤ (w.alloc (.cells #[] 5)).heap.size := by simp
  have HQ := Aside0.mk hq
  have HN := Aside0.mk hn
  clear hr hq hn
  go_enter Try.func90, Try.ntmps90
  go_wp2_with (at_builtin; refine appRow (w0 := w) w.heap.size rfl (.tmp 11) (.tmp 12) rfl _ [] l A l.length c rfl rfl HO.out HR.out HB.out hs (by simp; omega) ?_; intro v1 w1 ho hb hgr; have HO1 := Aside0.mk ho; have HB1 := Aside0.mk hb; clear ho hb hgr)
  clear HO HR HB hs
  go_loopw [7, 23] (fun v7 v23 wr => ∃ (k : Nat) (out : List Int), v23 = .int .i64 (k : Int) ∧ k ≤ ns.length ∧ Aside0 (out = l ++ (ns.take k).flatMap (fixedL size)) ∧ Aside0 (R8 wr w.heap.size v7 out) ∧ Aside0 (Below w.heap.size w wr)) (fun _ v _ => ns.length - (intOf v).toNat)
  case atStart => exact ⟨0, l, rfl, Nat.zero_le _, ⟨by simp⟩, HO1, HB1⟩
  case round =>
    obtain ⟨k, out, rfl, hkn, he, HO, HB⟩ := hrel
    clear HO1 HB1
    obtain ⟨wo, rfl⟩ : ∃ wo : World, wo = wr := ⟨_, rfl⟩
    by_cases hlt : k < ns.length
    · obtain ⟨bq, off, hB, hbq, hx⟩ := C_at 0 HQ.out (by omega)
      subst hB
      have hx0 := hx k hlt
      have hc0 := (HB.out.cell (p := ⟨bq, off + k, none⟩) hbq).trans hx0
      clear hx hx0
      have hxn := HN.out (ns.getD k 0) (by simp [hlt])
      generalize hX : ns.getD k 0 = x at *
      obtain ⟨hx0, hx1⟩ := hxn
      have HX := Aside0.mk hX
      clear hX
      go_wp2
      go_loopw [7, 28] (fun v7 v28 wr => ∃ (j : Nat) (o2 : List Int), v28 = .int .i64 (j : Int) ∧ j ≤ size ∧ Aside0 (o2 = out ++ fixedL j x) ∧ Aside0 (R8 wr w.heap.size v7 o2) ∧ Aside0 (Below w.heap.size w wr)) (fun _ v _ => size - (intOf v).toNat)
      case atStart => exact ⟨0, out, rfl, Nat.zero_le _, ⟨by simp [fixedL]⟩, HO, HB⟩
      case round =>
        obtain ⟨j, o2, rfl, hj, he2, HO2, HB2⟩ := hrel
        have hlen : out.length ≤ 1000032 := by
          rw [he.out, List.length_append]
          rw [flat_fixed_len, List.length_take]
          have : min k ns.length * size ≤ 4 * 8 := Nat.mul_le_mul (by omega) h8
          omega
        have hlen2 : o2.length ≤ 1000040 := by rw [he2.out, List.length_append, fixedL_len]; omega
        clear hc0
        have hs := HB2.out.size
        by_cases hjl : j < size
        · go_wp2_with (at_builtin; refine app1 (w0 := w) w.heap.size rfl (.tmp 31) (.tmp 37) rfl _ o2 _ rfl rfl HO2.out HB2.out hs (by omega) ?_; intro v2 w2 ho hb; have HO3 := Aside0.mk ho; have HB3 := Aside0.mk hb; clear ho hb)
          go_roundw
          case rel => exact ⟨j + 1, _, by go_num, by omega, ⟨by rw [he2.out, List.append_assoc, fixedL_succ, pow256]⟩, HO3, HB3⟩
          case measure => simp [intOf]; omega
        · obtain rfl : j = size := by omega
          go_wp2
          go_roundw
          case rel => exact ⟨k + 1, o2, by go_num, by omega, ⟨by rw [he2.out, he.out, List.take_add_one, List.flatMap_append]; simp [hlt, ← HX.out]⟩, HO2, HB2⟩
          case measure => simp [intOf]; omega
    · obtain rfl : k = ns.length := by omega
      go_wp2
      go_ret
      exact ⟨_, rfl, by have := he.out; rw [List.take_length] at this; rw [← this]; exact HO.out, HB.out⟩

theorem wraps_u64 (n : Int) (h₀ : 0 ≤ n) (h₁ : n < 2 ^ 64) : IntKind.u64.wrap n = n := by rw [IntKind.wrap_u64]; omega
theorem take_snoc' {l : List Int} {j : Nat} (h : j < l.length) : l.take (j + 1) = l.take j ++ [l.getD j 0] := by
  rw [List.take_add_one]
  simp [h]
theorem pow_le {j : Nat} (h : j < 8) : (1 : Int) ≤ 256 ^ j ∧ (256 : Int) ^ j ≤ 72057594037927936 := by
  obtain rfl | rfl | rfl | rfl | rfl | rfl | rfl | rfl : j = 0 ∨ j = 1 ∨ j = 2 ∨ j = 3 ∨ j = 4 ∨ j = 5 ∨ j = 6 ∨ j = 7 := by omega
  all_goals simp
theorem or_step {l : List Int} (hb : Byt l) {j : Nat} (hj : j < l.length) (h8 : j < 8) :
    bits .or .u64 (leL (l.take j)) (IntKind.u64.wrap (IntKind.u64.wrap (l[j]?.getD 0) * 2 ^ (8 * j))) = leL (l.take (j + 1)) := by
  have h1 := hb.getD j
  have h2 : l[j]?.getD 0 = l.getD j 0 := by simp
  have h3 := leL_bound (hb.take j)
  have hl : (l.take j).length = j := by rw [List.length_take]; omega
  rw [hl] at h3
  have h4 := pow_le h8
  rw [take_snoc' hj, leL_snoc, hl, h2, pow256]
  generalize l.getD j 0 = b at *
  have h5 : 0 ≤ b * 256 ^ j := Int.mul_nonneg h1.1 (by omega)
  have h6 : b * 256 ^ j ≤ 255 * 72057594037927936 := Int.mul_le_mul (by omega) h4.2 (by omega) (by omega)
  rw [wraps_u64 b (by omega) (by omega), wraps_u64 _ h5 (by omega), Int.mul_comm (256 ^ j) b]
  refine Go.bits_join_low .u64 64 (by decide) wraps_u64 (8 * j) _ _ h3.1 (by rw [pow256]; exact h3.2) (by omega) h5 ?_ (by omega)
  rw [pow256]
  exact Int.mul_emod_left _ _

/-- What a number, and bytes, and that all is right, are told. -/
def TellsTake (w : World) (n : Int) (l : List Int) (e : Ending) (w' : World) : Prop := ∃ v, e = .returned (.tuple #[.int .u64 n, v, .bool true]) ∧ R8 w' w.heap.size v l ∧ Below w.heap.size w w'
set_option maxRecDepth 100000 in
set_option maxHeartbeats 2000000 in
theorem take_calls (A : Option Addr) (c : Nat) (l : List Int) (size : Nat) (w : World) (hr : C8 w A l.length l) (hb : Byt l) (hc : l.length ≤ c) (hm : l.length ≤ 1000000) (h1 : 1 ≤ size) (h8 : size ≤ 8) (hs : size ≤ l.length) :
    Calls Try.prog 95 #[.slice A l.length c, .int .i64 (size : Int)] w (TellsTake w (leL (l.take size)) (l.drop size)) := by
  have HR := Aside0.mk hr
  have HBY := Aside0.mk hb
  have hcut := cut8_to A l.length c size hs hc
  have hcut2 := cut8_from A l.length c size hs
  have HD := Aside0.mk (C8_drop hr hc hs)
  generalize (if c = size then A else A.map (·.add size)) = A2 at hcut2 HD
  obtain ⟨bq, off, rfl, hbq, hx⟩ := C_at 0 hr (by omega)
  have HX := Aside0.mk hx
  clear hr hb hx
  go_enter Try.func95, Try.ntmps95
  go_wp2
  go_loop [4, 25] (fun v4 v25 => ∃ (j : Nat), v25 = .int .i64 (j : Int) ∧ j ≤ size ∧ v4 = .int .u64 (leL (l.take j))) (fun _ v => size - (intOf v).toNat)
  case atStart => exact ⟨0, rfl, Nat.zero_le _, by simp [leL]⟩
  case round =>
    obtain ⟨j, rfl, hj, rfl⟩ := hrel
    by_cases hjl : j < size
    · have hx0 := HX.out j (by omega)
      go_wp2
      go_round
      case rel => exact ⟨j + 1, by go_num, by omega, by rw [or_step HBY.out (by omega) (by omega)]⟩
      case measure => simp [intOf]; omega
    · obtain rfl : j = size := by omega
      have HR2 := Aside0.mk (Kd.C_below HD.out (below_alloc (Below.refl w.heap.size w) (.cells #[] 5)))
      have HO := Aside0.mk (R8_new w w.heap.size (Nat.le_refl _) [] (by simp))
      have HB := Aside0.mk (below_alloc (Below.refl w.heap.size w) (.cells #[] 5))
      have hs2 : w.heap.size ≤ (w.alloc (.cells #[] 5)).heap.size := by simp
      go_wp2_with (at_builtin; refine appRow (w0 := w) w.heap.size rfl (.tmp 39) (.tmp 42) rfl _ [] (l.drop j) A2 (l.length - j) (c - j) rfl rfl HO.out HR2.out HB.out hs2 (by simp; omega) ?_; intro v1 w1 ho hb hgr; have HO1 := Aside0.mk ho; have HB1 := Aside0.mk hb; clear ho hb hgr)
      go_ret3
      exact ⟨_, rfl, HO1.out, HB1.out⟩
end Go.Proofs.Ytfefpbnhpncmlaa.CodB
/- codec.ReadShort, codec.Text, codec.ReadText: contracts. -/
namespace Go.Proofs.Ytfefpbnhpncmlaa.CodC
open Go.RowKit Go.Proofs.Ytfefpbnhpncmlaa.B8 Go.Proofs.Ytfefpbnhpncmlaa.CodL Go.Proofs.Ytfefpbnhpncmlaa.CodA Go.Proofs.Ytfefpbnhpncmlaa.CodB Go.Proofs.Ytfefpbnhpncmlaa.PBaseSigns Go.Proofs.YtfefpbnhpncmlaaW.PrintWords Go.Proofs.YtfefpbnhpncmlaaW.PrintLast Go.Proofs.YtfefpbnhpncmlaaW.PrintMore
attribute [local go_sem] max2_int min2_int max_two min_two
set_option linter.unusedVariables false
set_option linter.unusedSimpArgs false

theorem fail_calls (n : Int) (w : World) : Calls Try.prog 124 #[.int .i64 n] w fun e w' => e = .returned (.tuple #[.int .u64 0, .int .i64 0, .int .i64 n]) ∧ w = w' := by
  go_enter Try.func124, Try.ntmps124
  go_wp2
  go_ret3
  exact ⟨rfl, rfl⟩

theorem glen_up (n : Nat) : n < 128 ^ glen n := by
  induction n using shortL.induct with
  | case1 n h => rw [glen_small h]; omega
  | case2 n h ih =>
    rw [glen_more h, Nat.pow_succ]
    omega
theorem glen_of {m k : Nat} (h1 : m < 128 ^ (k + 1)) (h2 : 128 ^ k ≤ m ∨ k = 0) : glen m = k + 1 := by
  have h3 := glen_le (n := m) (k := k + 1) (by omega) h1
  have h4 := glen_up m
  have h5 := glen_pos m
  rcases h2 with h2 | h2
  · rcases Nat.lt_or_ge (glen m) (k + 1) with h6 | h6
    · have : 128 ^ glen m ≤ 128 ^ k := Nat.pow_le_pow_right (by decide) (by omega)
      omega
    · omega
  · omega
theorem glen_not {m k : Nat} (hk : 0 < k) (h1 : m < 128 ^ k) : glen m ≠ k + 1 := by
  have := glen_le hk h1
  omega

theorem andnot_fin : ∀ a : Fin 256, bits .andNot .u8 ((a.val : Nat) : Int) 128 = ((a.val % 128 : Nat) : Int) := by decide +kernel
theorem andnot128 (c : Int) (h0 : 0 ≤ c) (h1 : c < 256) : bits .andNot .u8 c 128 = c % 128 := by
  have := andnot_fin ⟨c.toNat, by omega⟩
  simp only [Int.toNat_of_nonneg h0] at this
  rw [this]
  omega
theorem sevenL_take {l : List Int} {j : Nat} (h : j < l.length) : sevenL (l.take (j + 1)) = sevenL (l.take j) + 128 ^ j * (l.getD j 0 % 128) := by
  rw [take_snoc' h, sevenL_snoc, List.length_take, Nat.min_eq_left (by omega)]
theorem pow128 (j : Nat) : (2 : Int) ^ (7 * j) = 128 ^ j := by rw [Int.pow_mul]; rfl
theorem pow_le' {j : Nat} (h : j ≤ 9) : (1 : Int) ≤ 128 ^ j ∧ (128 : Int) ^ j ≤ 9223372036854775808 := by
  obtain rfl | rfl | rfl | rfl | rfl | rfl | rfl | rfl | rfl | rfl : j = 0 ∨ j = 1 ∨ j = 2 ∨ j = 3 ∨ j = 4 ∨ j = 5 ∨ j = 6 ∨ j = 7 ∨ j = 8 ∨ j = 9 := by omega
  all_goals simp
theorem pow_le8 {j : Nat} (h : j ≤ 8) : (128 : Int) ^ j ≤ 72057594037927936 := by
  obtain rfl | rfl | rfl | rfl | rfl | rfl | rfl | rfl | rfl : j = 0 ∨ j = 1 ∨ j = 2 ∨ j = 3 ∨ j = 4 ∨ j = 5 ∨ j = 6 ∨ j = 7 ∨ j = 8 := by omega
  all_goals simp
/-- One group more. -/
theorem or_seven {l : List Int} (hb : Byt l) {j : Nat} (hj : j < l.length) (h9 : j ≤ 9) (hc : j = 9 → l.getD j 0 % 128 ≤ 1) :
    bits .or .u64 (sevenL (l.take j)) (IntKind.u64.wrap (l.getD j 0 % 128 * 2 ^ (7 * j))) = sevenL (l.take (j + 1)) ∧ sevenL (l.take (j + 1)) < 18446744073709551616 := by
  have h1 := hb.getD j
  have h3 := sevenL_bound (l.take j)
  have hl : (l.take j).length = j := by rw [List.length_take]; omega
  rw [hl] at h3
  have h4 := pow_le' h9
  rw [sevenL_take hj, pow128]
  generalize l.getD j 0 = b at *
  have h5 : 0 ≤ b % 128 * 128 ^ j := Int.mul_nonneg (by omega) (by omega)
  have h6 : b % 128 * 128 ^ j ≤ 9223372036854775808 := by
    by_cases h : j = 9
    · have := hc h
      subst h
      have : b % 128 = 0 ∨ b % 128 = 1 := by omega
      rcases this with h | h <;> rw [h] <;> simp
    · have h7 := pow_le8 (j := j) (by omega)
      have := Int.mul_le_mul (a := b % 128) (c := 127) (by omega) h7 (by omega) (by omega)
      omega
  rw [wraps_u64 _ h5 (by omega), Int.mul_comm (128 ^ j) (b % 128)]
  refine ⟨bits_join_low .u64 64 (by decide) wraps_u64 (7 * j) _ _ h3.1 (by rw [pow128]; exact h3.2) (by omega) h5 ?_ (by omega), by omega⟩
  rw [pow128]
  exact Int.mul_emod_left _ _
theorem blen_part (p : Nat) (h : p < 128) : blen p ≤ 7 ∧ (p ≤ 1 → blen p ≤ 1) ∧ (2 ≤ p → 2 ≤ blen p) := by
  refine ⟨?_, ?_, ?_⟩
  · unfold blen
    split
    · omega
    · have := log2_small h; omega
  · intro h1
    have : p = 0 ∨ p = 1 := by omega
    rcases this with rfl | rfl <;> decide
  · intro h2
    unfold blen
    rw [if_neg (by omega)]
    have := (Nat.le_log2 (n := p) (k := 1) (by omega)).2 (by omega)
    omega

set_option maxRecDepth 100000 in
set_option maxHeartbeats 2000000 in
theorem readShort_calls (A : Option Addr) (c : Nat) (l : List Int) (w : World) (hr : C8 w A l.length l) (hb : Byt l) (hc : l.length ≤ c) (hm : l.length ≤ 1000000) :
    Calls Try.prog 105 #[.slice A l.length c] w fun e w' => e = .returned (.tuple #[.int .u64 (readShort l).1, .int .i64 ((readShort l).2.1 : Int), .int .i64 (readShort l).2.2]) ∧ w = w' := by
  have HR := Aside0.mk hr
  have HBY := Aside0.mk hb
  clear hr hb
  obtain ⟨N, hN, hNl, hN10, hNe⟩ : ∃ N : Nat, (if (10 : Int) < (l.length : Int) then (10 : Int) else (l.length : Int)) = (N : Int) ∧ N ≤ l.length ∧ N ≤ 10 ∧ (N = 10 ∨ N = l.length) := by
    by_cases h : l.length ≤ 10
    · exact ⟨l.length, by rw [if_neg (by omega)], Nat.le_refl _, h, .inr rfl⟩
    · exact ⟨10, by rw [if_pos (by omega)]; rfl, by omega, Nat.le_refl _, .inl rfl⟩
  have hcut := cut8_to A l.length c N hNl hc
  go_enter Try.func105, Try.ntmps105
  go_wp2
  go_loop [2, 15] (fun v2 v15 => ∃ (j : Nat), v15 = .int .i64 (j : Int) ∧ j ≤ N ∧ v2 = .int .u64 (sevenL (l.take j)) ∧ Aside0 (∀ i, i < j → 128 ≤ l.getD i 0)) (fun _ v => N - (intOf v).toNat)
  case atStart => exact ⟨0, rfl, Nat.zero_le _, by simp [sevenL], ⟨fun i hi => by omega⟩⟩
  case round =>
    obtain ⟨j, rfl, hj, rfl, hlead⟩ := hrel
    have hjl := Aside0.mk (lead_ge (l := l) (by omega) hlead.out)
    by_cases hlt : j < N
    · obtain ⟨bq, off, rfl, hbq, hx⟩ := C_at 0 HR.out (by omega)
      have hx0 := hx j (by omega)
      have hb := HBY.out.getD j
      have HOS := Aside0.mk (or_seven HBY.out (j := j) (by omega) (by omega))
      have hsb := sevenL_bound (l.take (j + 1))
      have HSPEC := Aside0.mk (fun (h : l.getD j 0 < 128) => (by
        have h1 := lead_ge (l := l) (i := j) (by omega) hlead.out
        rcases Nat.lt_or_ge j (lead l) with h2 | h2
        · have := lead_lt h2; omega
        · omega : lead l = j))
      clear hx
      generalize hC : l.getD j 0 = cc at *
      have HC := Aside0.mk hC
      clear hC
      have hand := andnot128 cc hb.1 hb.2
      obtain ⟨p, hp⟩ : ∃ p : Nat, cc % 128 = (p : Int) := ⟨(cc % 128).toNat, by omega⟩
      have hp128 : p < 128 := by omega
      have hbl := blen_part p hp128
      have HL := Aside0.mk (len_calls p (by omega))
      rw [hp] at hand
      by_cases hA : j = 9 ∧ 2 ≤ p
      · have h4 := hbl.1
        have h3 := hbl.2.2 hA.2
        have h5 : 9 ≤ j := by omega
        have h6 : j ≤ 9 := by omega
        have h2 : (64 : Int) < (blen p : Int) + 7 * (j : Int) := by omega
        have hrs : readShort l = (0, 0, 11) := by
          have h7 := hjl.out
          unfold readShort
          by_cases h8 : 10 ≤ lead l
          · rw [if_pos h8]
          · have h9 : lead l = 9 := by omega
            have h10 : l.getD 9 0 = cc := by rw [← HC.out]; congr 1; omega
            have h11 := lead_le l
            have h12 := lead_at (l := l) (by omega)
            rw [if_neg h8, if_neg (by omega), if_pos (.inl ⟨h9, by omega⟩)]
        have HRS := Aside0.mk hrs
        have hw : IntKind.u64.wrap (p : Int) = (p : Int) := wraps_u64 _ (by omega) (by omega)
        clear hA hbl hp128 hrs
        have HP := Aside0.mk hp
        clear hp
        generalize blen p = bp at *
        go_wp2_with fail
        refine (HL.out _).mono ?_
        rintro e w1 ⟨rfl, rfl⟩
        go_wp2_with fail
        refine (fail_calls _ _).mono ?_
        rintro e w1 ⟨rfl, rfl⟩
        go_wp2
        go_ret3
        rw [HRS.out]
        exact ⟨rfl, rfl⟩
      · have h4 := hbl.1
        have h2 : (blen p : Int) + 7 * (j : Int) ≤ 64 := by
          by_cases h9 : j = 9
          · have := hbl.2.1 (by omega)
            omega
          · omega
        have hw : IntKind.u64.wrap (p : Int) = (p : Int) := wraps_u64 _ (by omega) (by omega)
        obtain ⟨hos, hosb⟩ := HOS.out (by omega)
        obtain ⟨m, hm'⟩ : ∃ m : Nat, sevenL (l.take (j + 1)) = (m : Int) := ⟨(sevenL (l.take (j + 1))).toNat, by omega⟩
        have HM := Aside0.mk hm'
        rw [hm', hp] at hos
        have hmb : m < 18446744073709551616 := by omega
        have HG := Aside0.mk (groups_calls m hmb)
        have hlen1 : (l.take (j + 1)).length = j + 1 := by rw [List.length_take]; omega
        have hm128 : m < 128 ^ (j + 1) := by
          have := hsb.2
          rw [hlen1, hm'] at this
          exact_mod_cast this
        have hms : (m : Int) = sevenL (l.take j) + 128 ^ j * (p : Int) := by
          rw [← hm', sevenL_take (by omega), HC.out, hp]
        have hsj := sevenL_bound (l.take j)
        have hlen0 : (l.take j).length = j := by rw [List.length_take]; omega
        rw [hlen0] at hsj
        by_cases hcl : cc < 128
        · have hld := HSPEC.out hcl
          have hcp : cc = (p : Int) := by omega
          by_cases hz : 0 < j ∧ p = 0
          · have hg : glen m ≠ j + 1 := by
              refine glen_not hz.1 ?_
              rw [hz.2] at hms
              have : (m : Int) < 128 ^ j := by simp at hms; omega
              exact_mod_cast this
            have hrs : readShort l = (0, 0, 11) := by
              unfold readShort
              rw [if_neg (by omega), if_neg (by omega), if_pos (.inr ⟨by omega, by rw [hld, HC.out]; omega⟩)]
            have HRS := Aside0.mk hrs
            have hne : ((glen m : Int) == (j : Int) + 1) = false := by simp; omega
            clear hrs hz hg hms hsj hlen0 hm128 hlen1 hm' hsb HOS hld hcp hp128 hA hbl HC
            have HP := Aside0.mk hp
            clear hp
            generalize blen p = bp at *
            generalize glen m = g at *
            go_wp2_with fail
            refine (HL.out _).mono ?_
            rintro e w1 ⟨rfl, rfl⟩
            go_wp2_with fail
            refine (HG.out _).mono ?_
            rintro e w1 ⟨rfl, rfl⟩
            go_wp2_with fail
            refine (fail_calls _ _).mono ?_
            rintro e w1 ⟨rfl, rfl⟩
            go_wp2
            go_ret3
            rw [HRS.out]
            exact ⟨rfl, rfl⟩
          · have hg : glen m = j + 1 := by
              refine glen_of hm128 ?_
              by_cases hj0 : j = 0
              · exact .inr hj0
              · left
                have h1p : (1 : Int) ≤ (p : Int) := by omega
                have := Int.mul_le_mul_of_nonneg_left h1p (show (0 : Int) ≤ 128 ^ j by have := (pow_le' (j := j) (by omega)).1; omega)
                have : (128 : Int) ^ j ≤ (m : Int) := by omega
                exact_mod_cast this
            have hrs : readShort l = ((m : Int), j + 1, 0) := by
              unfold readShort
              rw [if_neg (by omega), if_neg (by omega), if_neg ?_, hld, HM.out]
              rintro (⟨h1, h3⟩ | ⟨h1, h3⟩)
              · have : l.getD 9 0 = cc := by rw [← HC.out]; congr 1; omega
                omega
              · rw [hld, HC.out] at h3
                omega
            have HRS := Aside0.mk hrs
            rw [hg] at HG
            clear hrs hz hg hms hsj hlen0 hm128 hlen1 hm' hsb HOS hld hcp hp128 hA hbl HC
            have HP := Aside0.mk hp
            clear hp
            generalize blen p = bp at *
            go_wp2_with fail
            refine (HL.out _).mono ?_
            rintro e w1 ⟨rfl, rfl⟩
            go_wp2_with fail
            refine (HG.out _).mono ?_
            rintro e w1 ⟨rfl, rfl⟩
            go_wp2
            go_ret3
            rw [HRS.out]
            exact ⟨by simp, rfl⟩
        · have hc128 : 128 ≤ cc := by omega
          have hlead2 : Aside0 (∀ i, i < j + 1 → 128 ≤ l.getD i 0) := ⟨fun i hi => by
            by_cases h : i = j
            · rw [h, HC.out]; omega
            · exact hlead.out i (by omega)⟩
          clear hms hsj hlen0 hm128 hlen1 hm' hsb HOS hp128 hA hbl HC HSPEC
          have HP := Aside0.mk hp
          clear hp
          generalize blen p = bp at *
          go_wp2_with fail
          refine (HL.out _).mono ?_
          rintro e w1 ⟨rfl, rfl⟩
          go_wp2
          go_round
          case rel => exact ⟨j + 1, by go_num, by omega, by rw [HM.out], hlead2⟩
          case measure => simp [intOf]; omega
    · obtain rfl : j = N := by omega
      by_cases h10 : 10 ≤ l.length
      · have hrs : readShort l = (0, 0, 11) := by
          unfold readShort
          rw [if_pos (by have := hjl.out; omega)]
        have HRS := Aside0.mk hrs
        clear hrs hNe hN
        go_wp2_with fail
        refine (fail_calls _ _).mono ?_
        rintro e w1 ⟨rfl, rfl⟩
        go_wp2
        go_ret3
        rw [HRS.out]
        exact ⟨rfl, rfl⟩
      · have hrs : readShort l = (0, 0, 10) := by
          have := hjl.out
          have := lead_le l
          unfold readShort
          rw [if_neg (by omega), if_pos (by omega)]
        have HRS := Aside0.mk hrs
        clear hrs hNe hN
        go_wp2_with fail
        refine (fail_calls _ _).mono ?_
        rintro e w1 ⟨rfl, rfl⟩
        go_wp2
        go_ret3
        rw [HRS.out]
        exact ⟨rfl, rfl⟩
end Go.Proofs.Ytfefpbnhpncmlaa.CodC
/- pointer.Sectors, pointer.Right, pointer.None, and the document's: contracts; the cells are a pointer's. -/
namespace Go.Proofs.Ytfefpbnhpncmlaa.PtrA
open Go.RowKit Go.Proofs.Ytfefpbnhpncmlaa.B8 Go.Proofs.Ytfefpbnhpncmlaa.CodL Go.Proofs.Ytfefpbnhpncmlaa.CatL Go.Proofs.Ytfefpbnhpncmlaa.PBaseSigns Go.Proofs.YtfefpbnhpncmlaaW.PrintWords Go.Proofs.YtfefpbnhpncmlaaW.PrintLast Go.Proofs.YtfefpbnhpncmlaaW.PrintMore
set_option linter.unusedVariables false
set_option linter.unusedSimpArgs false

/-- The cells of a pointer. -/
structure PC (cs : Array Value) (p : Ptr) : Prop where
  size : cs.size = 36
  c0 : cs[0]? = some (.int .i64 p.at_)
  c1 : cs[1]? = some (.int .i64 p.birth)
  c2 : cs[2]? = some (.int .i64 p.len)
  c3 : cs[3]? = some (.int .u32 p.crc)
  sha : ∀ i, i < 32 → cs[4 + i]? = some (.int .u8 (p.sha.getD i 0))

theorem sectors_calls (cs : Array Value) (p : Ptr) (hp : PC cs p) (w : World) : Calls Try.prog 85 #[.agg cs] w fun e w' => e = .returned (.int .i64 (sect p.len)) ∧ Below w.heap.size w w' := by
  have x2 : (w.alloc (.cells cs 56)).cell? ⟨w.heap.size, 2, none⟩ = some (.int .i64 p.len) := by rw [cell_of_row _ _ 2 cs 56 (0, 0) (blk_new _ _)]; exact hp.c2
  generalize p.len = n at *
  by_cases h1 : n < 1
  · go_enter Try.func85, Try.ntmps85
    go_wp2
    go_ret
    exact ⟨by unfold sect; rw [if_pos (.inl h1)]; rfl, below_alloc (Below.refl _ _) _⟩
  · by_cases h2 : 65536 < n
    · go_enter Try.func85, Try.ntmps85
      go_wp2
      go_ret
      exact ⟨by unfold sect; rw [if_pos (.inr h2)]; rfl, below_alloc (Below.refl _ _) _⟩
    · go_enter Try.func85, Try.ntmps85
      go_wp2
      go_ret
      exact ⟨by unfold sect; rw [if_neg (by omega)]; exact CodA.ret_int (by omega), below_alloc (Below.refl _ _) _⟩

theorem rsectors_calls (cs : Array Value) (p : Ptr) (hp : PC cs p) (w : World) : Calls Try.prog 86 #[.agg cs] w fun e w' => e = .returned (.int .i64 (sect p.len)) ∧ Below w.heap.size w w' := by
  have x2 : (w.alloc (.cells cs 56)).cell? ⟨w.heap.size, 2, none⟩ = some (.int .i64 p.len) := by rw [cell_of_row _ _ 2 cs 56 (0, 0) (blk_new _ _)]; exact hp.c2
  generalize p.len = n at *
  by_cases h1 : n < 1
  · go_enter Try.func86, Try.ntmps86
    go_wp2
    go_ret
    exact ⟨by unfold sect; rw [if_pos (.inl h1)]; rfl, below_alloc (Below.refl _ _) _⟩
  · by_cases h2 : 65536 < n
    · go_enter Try.func86, Try.ntmps86
      go_wp2
      go_ret
      exact ⟨by unfold sect; rw [if_pos (.inr h2)]; rfl, below_alloc (Below.refl _ _) _⟩
    · go_enter Try.func86, Try.ntmps86
      go_wp2
      go_ret
      exact ⟨by unfold sect; rw [if_neg (by omega)]; exact CodA.ret_int (by omega), below_alloc (Below.refl _ _) _⟩

theorem in_calls (n a b : Int) (w : World) : Calls Try.prog 109 #[.int .i64 n, .int .i64 a, .int .i64 b] w fun e w' => e = .returned (.bool (decide (a ≤ n) && decide (n ≤ b))) ∧ w = w' := by
  by_cases h1 : a ≤ n
  · go_enter Try.func109, Try.ntmps109
    go_wp2
    go_ret
    exact ⟨by simp [h1], rfl⟩
  · go_enter Try.func109, Try.ntmps109
    go_wp2
    go_ret
    exact ⟨by have h2 : ¬ a ≤ n := by omega
              simp [h2], rfl⟩
end Go.Proofs.Ytfefpbnhpncmlaa.PtrA
/- pointer.Right: contracts; the cells are a pointer's. -/
namespace Go.Proofs.Ytfefpbnhpncmlaa.PtrB
open Go.RowKit Go.Proofs.Ytfefpbnhpncmlaa.B8 Go.Proofs.Ytfefpbnhpncmlaa.CodL Go.Proofs.Ytfefpbnhpncmlaa.CatL Go.Proofs.Ytfefpbnhpncmlaa.PtrA Go.Proofs.Ytfefpbnhpncmlaa.PBaseSigns Go.Proofs.YtfefpbnhpncmlaaW.PrintWords Go.Proofs.YtfefpbnhpncmlaaW.PrintLast Go.Proofs.YtfefpbnhpncmlaaW.PrintMore
set_option linter.unusedVariables false
set_option linter.unusedSimpArgs false

/-- A whole row is loaded, in any world that keeps it. -/
theorem yieldsIf_load_row {P : Program} {ops : Array Oper} {S : World → Prop} {op : Oper} {a : Act} (hw : Region.wanted op (yielded ops a.tmps) = true) (ty : TypeId) (x : Operand) (ho : op.op = .load ty x)
    (g : Nat) (hx : a.eval x = .pointer (some ⟨g, 0, none⟩)) (t : TypeId) (cs : Array Value) (fr : Nat × Nat) (d : TypeDesc) (hg : ∀ w, S w → w.heap[g]? = some (.cells cs t fr))
    (hu : P.underlying ty = some d) (hd : (match d with | .struct _ | .array _ _ => true | _ => false) = true) (hi : (P.info? ty).map (·.size) = some cs.size) : YieldsIf P ops S op (.agg cs) a :=
  .inl ⟨hw, fun w hS => by
    unfold execOp
    simp only [ho, hx, Instr.loadAt, Instr.sureAddr, Sem.run_bind, Sem.run_pure, Result.andThen_ok, run_loadVar_row w g t ty cs fr d (hg w hS) hu hd hi]⟩

/-- It is one, as a bool. -/
def rightB (p : Ptr) : Bool := decide (Right p)
theorem in_yes (n a b : Int) (h1 : a ≤ n) (h2 : n ≤ b) (w : World) : Calls Try.prog 109 #[.int .i64 n, .int .i64 a, .int .i64 b] w fun e w' => e = .returned (.bool true) ∧ w = w' :=
  (in_calls n a b w).mono fun e w' ⟨h, hw⟩ => ⟨by rw [h]; simp [h1, h2], hw⟩
theorem in_no (n a b : Int) (h : ¬ (a ≤ n ∧ n ≤ b)) (w : World) : Calls Try.prog 109 #[.int .i64 n, .int .i64 a, .int .i64 b] w fun e w' => e = .returned (.bool false) ∧ w = w' :=
  (in_calls n a b w).mono fun e w' ⟨h1, hw⟩ => ⟨by rw [h1]; congr 2; simpa using h, hw⟩


set_option maxHeartbeats 2000000 in
set_option maxRecDepth 100000 in
theorem right_a (cs : Array Value) (p : Ptr) (hp : PC cs p) (hb : ¬ (1 ≤ p.birth ∧ p.birth ≤ 1152921504606846976)) (w : World) : Calls Try.prog 66 #[.agg cs] w fun e w' => e = .returned (.bool false) ∧ Below w.heap.size w w' := by
  have hi : (Try.prog.info? 56).map (·.size) = some cs.size := by rw [hp.size]; kernel_rfl
  have G0 := Aside0.mk (blk_new w (.cells cs 56))
  have HB0 := Aside0.mk (below_alloc (Below.refl w.heap.size w) (.cells cs 56))
  have hs : w.heap.size < (w.alloc (.cells cs 56)).heap.size := by simp
  have HP := Aside0.mk hp
  go_enter Try.func66, Try.ntmps66
  go_wp2_with fail
  generalize (w.alloc (.cells cs 56)) = W at *
  refine wp_region_held_drew (S := fun w' => w'.heap[w.heap.size]? = some (.cells cs 56 (0, 0)) ∧ Below w.heap.size w w' ∧ w.heap.size < w'.heap.size) (by kernel_rfl) ⟨G0.out, below_drew HB0.out, hs⟩ (fun hW => ?_)
  refine wpAnyH_take (i := 0) (oi := ⟨some 4, _, _, _, _, _⟩) (v := .func (.func 109) #[] #[]) rfl (by kernel_rfl) (by kernel_rfl) (by kernel_rfl) (fun _ _ _ h => h) (.inl ⟨by rfl, fun W1 h1 => by go_simp⟩) hW ?_
  try simp only [Act.put, List.setIfInBounds_toArray, List.set_cons_zero, List.set_cons_succ]
  refine wpAnyH_take (i := 1) (oi := ⟨some 5, _, _, _, _, _⟩) (v := .pointer (some ⟨w.heap.size, 1, none⟩)) rfl (by kernel_rfl) (by kernel_rfl) (by kernel_rfl) (fun _ _ _ h => h) (.inl ⟨by rfl, fun W1 h1 => by go_simp⟩) hW ?_
  try simp only [Act.put, List.setIfInBounds_toArray, List.set_cons_zero, List.set_cons_succ]
  refine wpAnyH_take (i := 2) (oi := ⟨some 6, _, _, _, _, _⟩) (v := .int .i64 p.birth) rfl (by kernel_rfl) (by kernel_rfl) (by kernel_rfl) (fun _ _ _ h => h) (.inl ⟨by rfl, fun W1 h1 => by (have x0 : W1.cell? ⟨w.heap.size, 1, none⟩ = some (.int .i64 p.birth) := (by rw [cell_of_row W1 _ 1 cs 56 (0, 0) h1.1]; exact HP.out.c1)); go_simp⟩) hW ?_
  try simp only [Act.put, List.setIfInBounds_toArray, List.set_cons_zero, List.set_cons_succ]
  refine wpAnyH_ready (rs := [3]) (by kernel_rfl) (by simp) (AllReadyH.cons rfl (fun K1 hK1 => ?_) AllReadyH.nil)
  go_simp
  refine (in_no _ _ _ hb _).mono ?_
  rintro e w1 ⟨rfl, rfl⟩
  refine hK1.out _ _ (hW) (fun hW1 => ?_)
  try simp only [Act.put, List.setIfInBounds_toArray, List.set_cons_zero, List.set_cons_succ]
  refine wpAnyH_take (i := 4) (oi := ⟨some 8, _, _, _, _, _⟩) (v := .bool false) rfl (by kernel_rfl) (by kernel_rfl) (by kernel_rfl) (fun _ _ _ h => h) (.inl ⟨by rfl, fun W1 h1 => by go_simp⟩) hW1 ?_
  try simp only [Act.put, List.setIfInBounds_toArray, List.set_cons_zero, List.set_cons_succ]
  refine wpAnyH_take (i := 5) (oi := ⟨some 9, _, _, _, _, _⟩) (v := undef) rfl (by kernel_rfl) (by kernel_rfl) (by kernel_rfl) (fun _ _ _ h => h) (.inr ⟨by rfl, rfl⟩) hW1 ?_
  try simp only [Act.put, List.setIfInBounds_toArray, List.set_cons_zero, List.set_cons_succ]
  refine wpAnyH_take (i := 6) (oi := ⟨some 10, _, _, _, _, _⟩) (v := undef) rfl (by kernel_rfl) (by kernel_rfl) (by kernel_rfl) (fun _ _ _ h => h) (.inr ⟨by rfl, rfl⟩) hW1 ?_
  try simp only [Act.put, List.setIfInBounds_toArray, List.set_cons_zero, List.set_cons_succ]
  refine wpAnyH_take (i := 7) (oi := ⟨some 11, _, _, _, _, _⟩) (v := undef) rfl (by kernel_rfl) (by kernel_rfl) (by kernel_rfl) (fun _ _ _ h => h) (.inr ⟨by rfl, rfl⟩) hW1 ?_
  try simp only [Act.put, List.setIfInBounds_toArray, List.set_cons_zero, List.set_cons_succ]
  refine wpAnyH_take (i := 8) (oi := ⟨some 12, _, _, _, _, _⟩) (v := .bool false) rfl (by kernel_rfl) (by kernel_rfl) (by kernel_rfl) (fun _ _ _ h => h) (.inl ⟨by rfl, fun W1 h1 => by go_simp⟩) hW1 ?_
  try simp only [Act.put, List.setIfInBounds_toArray, List.set_cons_zero, List.set_cons_succ]
  refine wpAnyH_take (i := 9) (oi := ⟨some 13, _, _, _, _, _⟩) (v := .bool false) rfl (by kernel_rfl) (by kernel_rfl) (by kernel_rfl) (fun _ _ _ h => h) (.inl ⟨by rfl, fun W1 h1 => by go_simp⟩) hW1 ?_
  try simp only [Act.put, List.setIfInBounds_toArray, List.set_cons_zero, List.set_cons_succ]
  refine wpAnyH_take (i := 10) (oi := ⟨some 14, _, _, _, _, _⟩) (v := undef) rfl (by kernel_rfl) (by kernel_rfl) (by kernel_rfl) (fun _ _ _ h => h) (.inr ⟨by rfl, rfl⟩) hW1 ?_
  try simp only [Act.put, List.setIfInBounds_toArray, List.set_cons_zero, List.set_cons_succ]
  refine wpAnyH_take (i := 11) (oi := ⟨some 15, _, _, _, _, _⟩) (v := undef) rfl (by kernel_rfl) (by kernel_rfl) (by kernel_rfl) (fun _ _ _ h => h) (.inr ⟨by rfl, rfl⟩) hW1 ?_
  try simp only [Act.put, List.setIfInBounds_toArray, List.set_cons_zero, List.set_cons_succ]
  refine wpAnyH_take (i := 12) (oi := ⟨some 16, _, _, _, _, _⟩) (v := undef) rfl (by kernel_rfl) (by kernel_rfl) (by kernel_rfl) (fun _ _ _ h => h) (.inr ⟨by rfl, rfl⟩) hW1 ?_
  try simp only [Act.put, List.setIfInBounds_toArray, List.set_cons_zero, List.set_cons_succ]
  refine wpAnyH_take (i := 13) (oi := ⟨some 17, _, _, _, _, _⟩) (v := undef) rfl (by kernel_rfl) (by kernel_rfl) (by kernel_rfl) (fun _ _ _ h => h) (.inr ⟨by rfl, rfl⟩) hW1 ?_
  try simp only [Act.put, List.setIfInBounds_toArray, List.set_cons_zero, List.set_cons_succ]
  refine wpAnyH_take (i := 14) (oi := ⟨some 18, _, _, _, _, _⟩) (v := undef) rfl (by kernel_rfl) (by kernel_rfl) (by kernel_rfl) (fun _ _ _ h => h) (.inr ⟨by rfl, rfl⟩) hW1 ?_
  try simp only [Act.put, List.setIfInBounds_toArray, List.set_cons_zero, List.set_cons_succ]
  refine wpAnyH_take (i := 15) (oi := ⟨some 19, _, _, _, _, _⟩) (v := undef) rfl (by kernel_rfl) (by kernel_rfl) (by kernel_rfl) (fun _ _ _ h => h) (.inr ⟨by rfl, rfl⟩) hW1 ?_
  try simp only [Act.put, List.setIfInBounds_toArray, List.set_cons_zero, List.set_cons_succ]
  refine wpAnyH_take (i := 16) (oi := ⟨some 20, _, _, _, _, _⟩) (v := undef) rfl (by kernel_rfl) (by kernel_rfl) (by kernel_rfl) (fun _ _ _ h => h) (.inr ⟨by rfl, rfl⟩) hW1 ?_
  try simp only [Act.put, List.setIfInBounds_toArray, List.set_cons_zero, List.set_cons_succ]
  refine wpAnyH_take (i := 17) (oi := ⟨some 21, _, _, _, _, _⟩) (v := .bool false) rfl (by kernel_rfl) (by kernel_rfl) (by kernel_rfl) (fun _ _ _ h => h) (.inl ⟨by rfl, fun W1 h1 => by go_simp⟩) hW1 ?_
  try simp only [Act.put, List.setIfInBounds_toArray, List.set_cons_zero, List.set_cons_succ]
  refine wpAnyH_take (i := 18) (oi := ⟨some 2, _, _, _, _, _⟩) (v := .bool false) rfl (by kernel_rfl) (by kernel_rfl) (by kernel_rfl) (fun _ _ _ h => h) (.inl ⟨by rfl, fun W1 h1 => by go_simp⟩) hW1 ?_
  try simp only [Act.put, List.setIfInBounds_toArray, List.set_cons_zero, List.set_cons_succ]
  refine wpAnyH_done (by kernel_rfl) ?_ _
  have HB := Aside0.mk hW1.2.1
  clear HB0 G0 hs
  go_wp2
  go_ret
  exact ⟨rfl, HB.out⟩

set_option maxHeartbeats 2000000 in
set_option maxRecDepth 100000 in
theorem right_b (cs : Array Value) (p : Ptr) (hp : PC cs p) (hb1 : 1 ≤ p.birth) (hb2 : p.birth ≤ 1152921504606846976) (hq : sect p.len = 0) (w : World) : Calls Try.prog 66 #[.agg cs] w fun e w' => e = .returned (.bool false) ∧ Below w.heap.size w w' := by
  have hi : (Try.prog.info? 56).map (·.size) = some cs.size := by rw [hp.size]; kernel_rfl
  have G0 := Aside0.mk (blk_new w (.cells cs 56))
  have HB0 := Aside0.mk (below_alloc (Below.refl w.heap.size w) (.cells cs 56))
  have hs : w.heap.size < (w.alloc (.cells cs 56)).heap.size := by simp
  have HP := Aside0.mk hp
  go_enter Try.func66, Try.ntmps66
  go_wp2_with fail
  generalize (w.alloc (.cells cs 56)) = W at *
  have HS := Aside0.mk (fun W => sectors_calls cs p hp W)
  rw [hq] at HS
  refine wp_region_held_drew (S := fun w' => w'.heap[w.heap.size]? = some (.cells cs 56 (0, 0)) ∧ Below w.heap.size w w' ∧ w.heap.size < w'.heap.size) (by kernel_rfl) ⟨G0.out, below_drew HB0.out, hs⟩ (fun hW => ?_)
  refine wpAnyH_take (i := 0) (oi := ⟨some 4, _, _, _, _, _⟩) (v := .func (.func 109) #[] #[]) rfl (by kernel_rfl) (by kernel_rfl) (by kernel_rfl) (fun _ _ _ h => h) (.inl ⟨by rfl, fun W1 h1 => by go_simp⟩) hW ?_
  try simp only [Act.put, List.setIfInBounds_toArray, List.set_cons_zero, List.set_cons_succ]
  refine wpAnyH_take (i := 1) (oi := ⟨some 5, _, _, _, _, _⟩) (v := .pointer (some ⟨w.heap.size, 1, none⟩)) rfl (by kernel_rfl) (by kernel_rfl) (by kernel_rfl) (fun _ _ _ h => h) (.inl ⟨by rfl, fun W1 h1 => by go_simp⟩) hW ?_
  try simp only [Act.put, List.setIfInBounds_toArray, List.set_cons_zero, List.set_cons_succ]
  refine wpAnyH_take (i := 2) (oi := ⟨some 6, _, _, _, _, _⟩) (v := .int .i64 p.birth) rfl (by kernel_rfl) (by kernel_rfl) (by kernel_rfl) (fun _ _ _ h => h) (.inl ⟨by rfl, fun W1 h1 => by (have x0 : W1.cell? ⟨w.heap.size, 1, none⟩ = some (.int .i64 p.birth) := (by rw [cell_of_row W1 _ 1 cs 56 (0, 0) h1.1]; exact HP.out.c1)); go_simp⟩) hW ?_
  try simp only [Act.put, List.setIfInBounds_toArray, List.set_cons_zero, List.set_cons_succ]
  refine wpAnyH_ready (rs := [3]) (by kernel_rfl) (by simp) (AllReadyH.cons rfl (fun K1 hK1 => ?_) AllReadyH.nil)
  go_simp
  refine (in_yes _ _ _ hb1 hb2 _).mono ?_
  rintro e w1 ⟨rfl, rfl⟩
  refine hK1.out _ _ (hW) (fun hW1 => ?_)
  try simp only [Act.put, List.setIfInBounds_toArray, List.set_cons_zero, List.set_cons_succ]
  refine wpAnyH_take (i := 4) (oi := ⟨some 8, _, _, _, _, _⟩) (v := .bool true) rfl (by kernel_rfl) (by kernel_rfl) (by kernel_rfl) (fun _ _ _ h => h) (.inl ⟨by rfl, fun W1 h1 => by go_simp⟩) hW1 ?_
  try simp only [Act.put, List.setIfInBounds_toArray, List.set_cons_zero, List.set_cons_succ]
  refine wpAnyH_take (i := 5) (oi := ⟨some 9, _, _, _, _, _⟩) rfl (by kernel_rfl) (by kernel_rfl) (by kernel_rfl) (fun _ _ _ h => h) (yieldsIf_load_row (by rfl) 56 _ rfl w.heap.size rfl 56 cs (0, 0) _ (fun _ h => h.1) Try.underlying56 rfl hi) hW1 ?_
  try simp only [Act.put, List.setIfInBounds_toArray, List.set_cons_zero, List.set_cons_succ]
  refine wpAnyH_ready (rs := [6]) (by kernel_rfl) (by simp) (AllReadyH.cons rfl (fun K2 hK2 => ?_) AllReadyH.nil)
  go_simp
  refine (HS.out _).mono ?_
  rintro e w2 ⟨rfl, b2⟩
  refine hK2.out _ _ (⟨blk_below hW1.1 b2, hW1.2.1.trans (b2.mono hW1.2.1.size), Nat.lt_of_lt_of_le hW1.2.2 b2.size⟩) (fun hW2 => ?_)
  try simp only [Act.put, List.setIfInBounds_toArray, List.set_cons_zero, List.set_cons_succ]
  refine wpAnyH_take (i := 7) (oi := ⟨some 11, _, _, _, _, _⟩) (v := .bool false) rfl (by kernel_rfl) (by kernel_rfl) (by kernel_rfl) (fun _ _ _ h => h) (.inl ⟨by rfl, fun W1 h1 => by go_simp⟩) hW2 ?_
  try simp only [Act.put, List.setIfInBounds_toArray, List.set_cons_zero, List.set_cons_succ]
  refine wpAnyH_take (i := 8) (oi := ⟨some 12, _, _, _, _, _⟩) (v := .bool false) rfl (by kernel_rfl) (by kernel_rfl) (by kernel_rfl) (fun _ _ _ h => h) (.inl ⟨by rfl, fun W1 h1 => by go_simp⟩) hW2 ?_
  try simp only [Act.put, List.setIfInBounds_toArray, List.set_cons_zero, List.set_cons_succ]
  refine wpAnyH_take (i := 9) (oi := ⟨some 13, _, _, _, _, _⟩) (v := .bool false) rfl (by kernel_rfl) (by kernel_rfl) (by kernel_rfl) (fun _ _ _ h => h) (.inl ⟨by rfl, fun W1 h1 => by go_simp⟩) hW2 ?_
  try simp only [Act.put, List.setIfInBounds_toArray, List.set_cons_zero, List.set_cons_succ]
  refine wpAnyH_take (i := 10) (oi := ⟨some 14, _, _, _, _, _⟩) (v := undef) rfl (by kernel_rfl) (by kernel_rfl) (by kernel_rfl) (fun _ _ _ h => h) (.inr ⟨by rfl, rfl⟩) hW2 ?_
  try simp only [Act.put, List.setIfInBounds_toArray, List.set_cons_zero, List.set_cons_succ]
  refine wpAnyH_take (i := 11) (oi := ⟨some 15, _, _, _, _, _⟩) (v := undef) rfl (by kernel_rfl) (by kernel_rfl) (by kernel_rfl) (fun _ _ _ h => h) (.inr ⟨by rfl, rfl⟩) hW2 ?_
  try simp only [Act.put, List.setIfInBounds_toArray, List.set_cons_zero, List.set_cons_succ]
  refine wpAnyH_take (i := 12) (oi := ⟨some 16, _, _, _, _, _⟩) (v := undef) rfl (by kernel_rfl) (by kernel_rfl) (by kernel_rfl) (fun _ _ _ h => h) (.inr ⟨by rfl, rfl⟩) hW2 ?_
  try simp only [Act.put, List.setIfInBounds_toArray, List.set_cons_zero, List.set_cons_succ]
  refine wpAnyH_take (i := 13) (oi := ⟨some 17, _, _, _, _, _⟩) (v := undef) rfl (by kernel_rfl) (by kernel_rfl) (by kernel_rfl) (fun _ _ _ h => h) (.inr ⟨by rfl, rfl⟩) hW2 ?_
  try simp only [Act.put, List.setIfInBounds_toArray, List.set_cons_zero, List.set_cons_succ]
  refine wpAnyH_take (i := 14) (oi := ⟨some 18, _, _, _, _, _⟩) (v := undef) rfl (by kernel_rfl) (by kernel_rfl) (by kernel_rfl) (fun _ _ _ h => h) (.inr ⟨by rfl, rfl⟩) hW2 ?_
  try simp only [Act.put, List.setIfInBounds_toArray, List.set_cons_zero, List.set_cons_succ]
  refine wpAnyH_take (i := 15) (oi := ⟨some 19, _, _, _, _, _⟩) (v := undef) rfl (by kernel_rfl) (by kernel_rfl) (by kernel_rfl) (fun _ _ _ h => h) (.inr ⟨by rfl, rfl⟩) hW2 ?_
  try simp only [Act.put, List.setIfInBounds_toArray, List.set_cons_zero, List.set_cons_succ]
  refine wpAnyH_take (i := 16) (oi := ⟨some 20, _, _, _, _, _⟩) (v := undef) rfl (by kernel_rfl) (by kernel_rfl) (by kernel_rfl) (fun _ _ _ h => h) (.inr ⟨by rfl, rfl⟩) hW2 ?_
  try simp only [Act.put, List.setIfInBounds_toArray, List.set_cons_zero, List.set_cons_succ]
  refine wpAnyH_take (i := 17) (oi := ⟨some 21, _, _, _, _, _⟩) (v := .bool false) rfl (by kernel_rfl) (by kernel_rfl) (by kernel_rfl) (fun _ _ _ h => h) (.inl ⟨by rfl, fun W1 h1 => by go_simp⟩) hW2 ?_
  try simp only [Act.put, List.setIfInBounds_toArray, List.set_cons_zero, List.set_cons_succ]
  refine wpAnyH_take (i := 18) (oi := ⟨some 2, _, _, _, _, _⟩) (v := .bool false) rfl (by kernel_rfl) (by kernel_rfl) (by kernel_rfl) (fun _ _ _ h => h) (.inl ⟨by rfl, fun W1 h1 => by go_simp⟩) hW2 ?_
  try simp only [Act.put, List.setIfInBounds_toArray, List.set_cons_zero, List.set_cons_succ]
  refine wpAnyH_done (by kernel_rfl) ?_ _
  have HB := Aside0.mk hW2.2.1
  clear HB0 G0 hs
  go_wp2
  go_ret
  exact ⟨rfl, HB.out⟩

set_option maxHeartbeats 2000000 in
set_option maxRecDepth 100000 in
theorem right_c (cs : Array Value) (p : Ptr) (hp : PC cs p) (hb1 : 1 ≤ p.birth) (hb2 : p.birth ≤ 1152921504606846976) (hq : 0 < sect p.len) (hl1 : 2 ≤ p.at_) (hl2 : p.at_ ≤ 8192 - sect p.len) (w : World) : Calls Try.prog 66 #[.agg cs] w fun e w' => e = .returned (.bool true) ∧ Below w.heap.size w w' := by
  have hi : (Try.prog.info? 56).map (·.size) = some cs.size := by rw [hp.size]; kernel_rfl
  have G0 := Aside0.mk (blk_new w (.cells cs 56))
  have HB0 := Aside0.mk (below_alloc (Below.refl w.heap.size w) (.cells cs 56))
  have hs : w.heap.size < (w.alloc (.cells cs 56)).heap.size := by simp
  have HP := Aside0.mk hp
  go_enter Try.func66, Try.ntmps66
  go_wp2_with fail
  generalize (w.alloc (.cells cs 56)) = W at *
  have HS := Aside0.mk (fun W => sectors_calls cs p hp W)
  have hsb := sect_bound p.len
  generalize sect p.len = sc at *
  refine wp_region_held_drew (S := fun w' => w'.heap[w.heap.size]? = some (.cells cs 56 (0, 0)) ∧ Below w.heap.size w w' ∧ w.heap.size < w'.heap.size) (by kernel_rfl) ⟨G0.out, below_drew HB0.out, hs⟩ (fun hW => ?_)
  refine wpAnyH_take (i := 0) (oi := ⟨some 4, _, _, _, _, _⟩) (v := .func (.func 109) #[] #[]) rfl (by kernel_rfl) (by kernel_rfl) (by kernel_rfl) (fun _ _ _ h => h) (.inl ⟨by rfl, fun W1 h1 => by go_simp⟩) hW ?_
  try simp only [Act.put, List.setIfInBounds_toArray, List.set_cons_zero, List.set_cons_succ]
  refine wpAnyH_take (i := 1) (oi := ⟨some 5, _, _, _, _, _⟩) (v := .pointer (some ⟨w.heap.size, 1, none⟩)) rfl (by kernel_rfl) (by kernel_rfl) (by kernel_rfl) (fun _ _ _ h => h) (.inl ⟨by rfl, fun W1 h1 => by go_simp⟩) hW ?_
  try simp only [Act.put, List.setIfInBounds_toArray, List.set_cons_zero, List.set_cons_succ]
  refine wpAnyH_take (i := 2) (oi := ⟨some 6, _, _, _, _, _⟩) (v := .int .i64 p.birth) rfl (by kernel_rfl) (by kernel_rfl) (by kernel_rfl) (fun _ _ _ h => h) (.inl ⟨by rfl, fun W1 h1 => by (have x0 : W1.cell? ⟨w.heap.size, 1, none⟩ = some (.int .i64 p.birth) := (by rw [cell_of_row W1 _ 1 cs 56 (0, 0) h1.1]; exact HP.out.c1)); go_simp⟩) hW ?_
  try simp only [Act.put, List.setIfInBounds_toArray, List.set_cons_zero, List.set_cons_succ]
  refine wpAnyH_ready (rs := [3]) (by kernel_rfl) (by simp) (AllReadyH.cons rfl (fun K1 hK1 => ?_) AllReadyH.nil)
  go_simp
  refine (in_yes _ _ _ hb1 hb2 _).mono ?_
  rintro e w1 ⟨rfl, rfl⟩
  refine hK1.out _ _ (hW) (fun hW1 => ?_)
  try simp only [Act.put, List.setIfInBounds_toArray, List.set_cons_zero, List.set_cons_succ]
  refine wpAnyH_take (i := 4) (oi := ⟨some 8, _, _, _, _, _⟩) (v := .bool true) rfl (by kernel_rfl) (by kernel_rfl) (by kernel_rfl) (fun _ _ _ h => h) (.inl ⟨by rfl, fun W1 h1 => by go_simp⟩) hW1 ?_
  try simp only [Act.put, List.setIfInBounds_toArray, List.set_cons_zero, List.set_cons_succ]
  refine wpAnyH_take (i := 5) (oi := ⟨some 9, _, _, _, _, _⟩) rfl (by kernel_rfl) (by kernel_rfl) (by kernel_rfl) (fun _ _ _ h => h) (yieldsIf_load_row (by rfl) 56 _ rfl w.heap.size rfl 56 cs (0, 0) _ (fun _ h => h.1) Try.underlying56 rfl hi) hW1 ?_
  try simp only [Act.put, List.setIfInBounds_toArray, List.set_cons_zero, List.set_cons_succ]
  refine wpAnyH_ready (rs := [6]) (by kernel_rfl) (by simp) (AllReadyH.cons rfl (fun K2 hK2 => ?_) AllReadyH.nil)
  go_simp
  refine (HS.out _).mono ?_
  rintro e w2 ⟨rfl, b2⟩
  refine hK2.out _ _ (⟨blk_below hW1.1 b2, hW1.2.1.trans (b2.mono hW1.2.1.size), Nat.lt_of_lt_of_le hW1.2.2 b2.size⟩) (fun hW2 => ?_)
  try simp only [Act.put, List.setIfInBounds_toArray, List.set_cons_zero, List.set_cons_succ]
  refine wpAnyH_take (i := 7) (oi := ⟨some 11, _, _, _, _, _⟩) (v := .bool true) rfl (by kernel_rfl) (by kernel_rfl) (by kernel_rfl) (fun _ _ _ h => h) (.inl ⟨by rfl, fun W1 h1 => by go_simp⟩) hW2 ?_
  try simp only [Act.put, List.setIfInBounds_toArray, List.set_cons_zero, List.set_cons_succ]
  refine wpAnyH_take (i := 8) (oi := ⟨some 12, _, _, _, _, _⟩) (v := .bool true) rfl (by kernel_rfl) (by kernel_rfl) (by kernel_rfl) (fun _ _ _ h => h) (.inl ⟨by rfl, fun W1 h1 => by go_simp⟩) hW2 ?_
  try simp only [Act.put, List.setIfInBounds_toArray, List.set_cons_zero, List.set_cons_succ]
  refine wpAnyH_take (i := 9) (oi := ⟨some 13, _, _, _, _, _⟩) (v := .bool true) rfl (by kernel_rfl) (by kernel_rfl) (by kernel_rfl) (fun _ _ _ h => h) (.inl ⟨by rfl, fun W1 h1 => by go_simp⟩) hW2 ?_
  try simp only [Act.put, List.setIfInBounds_toArray, List.set_cons_zero, List.set_cons_succ]
  refine wpAnyH_take (i := 10) (oi := ⟨some 14, _, _, _, _, _⟩) (v := .func (.func 109) #[] #[]) rfl (by kernel_rfl) (by kernel_rfl) (by kernel_rfl) (fun _ _ _ h => h) (.inl ⟨by rfl, fun W1 h1 => by go_simp⟩) hW2 ?_
  try simp only [Act.put, List.setIfInBounds_toArray, List.set_cons_zero, List.set_cons_succ]
  refine wpAnyH_take (i := 11) (oi := ⟨some 15, _, _, _, _, _⟩) (v := .pointer (some ⟨w.heap.size, 0, none⟩)) rfl (by kernel_rfl) (by kernel_rfl) (by kernel_rfl) (fun _ _ _ h => h) (.inl ⟨by rfl, fun W1 h1 => by go_simp⟩) hW2 ?_
  try simp only [Act.put, List.setIfInBounds_toArray, List.set_cons_zero, List.set_cons_succ]
  refine wpAnyH_take (i := 12) (oi := ⟨some 16, _, _, _, _, _⟩) (v := .int .i64 p.at_) rfl (by kernel_rfl) (by kernel_rfl) (by kernel_rfl) (fun _ _ _ h => h) (.inl ⟨by rfl, fun W1 h1 => by (have x0 : W1.cell? ⟨w.heap.size, 0, none⟩ = some (.int .i64 p.at_) := (by rw [cell_of_row W1 _ 0 cs 56 (0, 0) h1.1]; exact HP.out.c0)); go_simp⟩) hW2 ?_
  try simp only [Act.put, List.setIfInBounds_toArray, List.set_cons_zero, List.set_cons_succ]
  refine wpAnyH_take (i := 13) (oi := ⟨some 17, _, _, _, _, _⟩) rfl (by kernel_rfl) (by kernel_rfl) (by kernel_rfl) (fun _ _ _ h => h) (yieldsIf_load_row (by rfl) 56 _ rfl w.heap.size rfl 56 cs (0, 0) _ (fun _ h => h.1) Try.underlying56 rfl hi) hW2 ?_
  try simp only [Act.put, List.setIfInBounds_toArray, List.set_cons_zero, List.set_cons_succ]
  refine wpAnyH_ready (rs := [14]) (by kernel_rfl) (by simp) (AllReadyH.cons rfl (fun K3 hK3 => ?_) AllReadyH.nil)
  go_simp
  refine (HS.out _).mono ?_
  rintro e w3 ⟨rfl, b3⟩
  refine hK3.out _ _ (⟨blk_below hW2.1 b3, hW2.2.1.trans (b3.mono hW2.2.1.size), Nat.lt_of_lt_of_le hW2.2.2 b3.size⟩) (fun hW3 => ?_)
  try simp only [Act.put, List.setIfInBounds_toArray, List.set_cons_zero, List.set_cons_succ]
  refine wpAnyH_take (i := 15) (oi := ⟨some 19, _, _, _, _, _⟩) (v := .int .i64 (8192 - sc)) rfl (by kernel_rfl) (by kernel_rfl) (by kernel_rfl) (fun _ _ _ h => h) (.inl ⟨by rfl, fun W1 h1 => by (have hw : IntKind.i64.wrap (8192 - sc) = 8192 - sc := (by rw [IntKind.wrap_i64]; omega)); go_simp⟩) hW3 ?_
  try simp only [Act.put, List.setIfInBounds_toArray, List.set_cons_zero, List.set_cons_succ]
  refine wpAnyH_ready (rs := [16]) (by kernel_rfl) (by simp) (AllReadyH.cons rfl (fun K4 hK4 => ?_) AllReadyH.nil)
  go_simp
  refine (in_yes _ _ _ hl1 hl2 _).mono ?_
  rintro e w4 ⟨rfl, rfl⟩
  refine hK4.out _ _ (hW3) (fun hW4 => ?_)
  try simp only [Act.put, List.setIfInBounds_toArray, List.set_cons_zero, List.set_cons_succ]
  refine wpAnyH_take (i := 17) (oi := ⟨some 21, _, _, _, _, _⟩) (v := .bool true) rfl (by kernel_rfl) (by kernel_rfl) (by kernel_rfl) (fun _ _ _ h => h) (.inl ⟨by rfl, fun W1 h1 => by go_simp⟩) hW4 ?_
  try simp only [Act.put, List.setIfInBounds_toArray, List.set_cons_zero, List.set_cons_succ]
  refine wpAnyH_take (i := 18) (oi := ⟨some 2, _, _, _, _, _⟩) (v := .bool true) rfl (by kernel_rfl) (by kernel_rfl) (by kernel_rfl) (fun _ _ _ h => h) (.inl ⟨by rfl, fun W1 h1 => by go_simp⟩) hW4 ?_
  try simp only [Act.put, List.setIfInBounds_toArray, List.set_cons_zero, List.set_cons_succ]
  refine wpAnyH_done (by kernel_rfl) ?_ _
  have HB := Aside0.mk hW4.2.1
  clear HB0 G0 hs
  go_wp2
  go_ret
  exact ⟨rfl, HB.out⟩

set_option maxHeartbeats 2000000 in
set_option maxRecDepth 100000 in
theorem right_d (cs : Array Value) (p : Ptr) (hp : PC cs p) (hb1 : 1 ≤ p.birth) (hb2 : p.birth ≤ 1152921504606846976) (hq : 0 < sect p.len) (hl : ¬ (2 ≤ p.at_ ∧ p.at_ ≤ 8192 - sect p.len)) (w : World) : Calls Try.prog 66 #[.agg cs] w fun e w' => e = .returned (.bool false) ∧ Below w.heap.size w w' := by
  have hi : (Try.prog.info? 56).map (·.size) = some cs.size := by rw [hp.size]; kernel_rfl
  have G0 := Aside0.mk (blk_new w (.cells cs 56))
  have HB0 := Aside0.mk (below_alloc (Below.refl w.heap.size w) (.cells cs 56))
  have hs : w.heap.size < (w.alloc (.cells cs 56)).heap.size := by simp
  have HP := Aside0.mk hp
  go_enter Try.func66, Try.ntmps66
  go_wp2_with fail
  generalize (w.alloc (.cells cs 56)) = W at *
  have HS := Aside0.mk (fun W => sectors_calls cs p hp W)
  have hsb := sect_bound p.len
  generalize sect p.len = sc at *
  refine wp_region_held_drew (S := fun w' => w'.heap[w.heap.size]? = some (.cells cs 56 (0, 0)) ∧ Below w.heap.size w w' ∧ w.heap.size < w'.heap.size) (by kernel_rfl) ⟨G0.out, below_drew HB0.out, hs⟩ (fun hW => ?_)
  refine wpAnyH_take (i := 0) (oi := ⟨some 4, _, _, _, _, _⟩) (v := .func (.func 109) #[] #[]) rfl (by kernel_rfl) (by kernel_rfl) (by kernel_rfl) (fun _ _ _ h => h) (.inl ⟨by rfl, fun W1 h1 => by go_simp⟩) hW ?_
  try simp only [Act.put, List.setIfInBounds_toArray, List.set_cons_zero, List.set_cons_succ]
  refine wpAnyH_take (i := 1) (oi := ⟨some 5, _, _, _, _, _⟩) (v := .pointer (some ⟨w.heap.size, 1, none⟩)) rfl (by kernel_rfl) (by kernel_rfl) (by kernel_rfl) (fun _ _ _ h => h) (.inl ⟨by rfl, fun W1 h1 => by go_simp⟩) hW ?_
  try simp only [Act.put, List.setIfInBounds_toArray, List.set_cons_zero, List.set_cons_succ]
  refine wpAnyH_take (i := 2) (oi := ⟨some 6, _, _, _, _, _⟩) (v := .int .i64 p.birth) rfl (by kernel_rfl) (by kernel_rfl) (by kernel_rfl) (fun _ _ _ h => h) (.inl ⟨by rfl, fun W1 h1 => by (have x0 : W1.cell? ⟨w.heap.size, 1, none⟩ = some (.int .i64 p.birth) := (by rw [cell_of_row W1 _ 1 cs 56 (0, 0) h1.1]; exact HP.out.c1)); go_simp⟩) hW ?_
  try simp only [Act.put, List.setIfInBounds_toArray, List.set_cons_zero, List.set_cons_succ]
  refine wpAnyH_ready (rs := [3]) (by kernel_rfl) (by simp) (AllReadyH.cons rfl (fun K1 hK1 => ?_) AllReadyH.nil)
  go_simp
  refine (in_yes _ _ _ hb1 hb2 _).mono ?_
  rintro e w1 ⟨rfl, rfl⟩
  refine hK1.out _ _ (hW) (fun hW1 => ?_)
  try simp only [Act.put, List.setIfInBounds_toArray, List.set_cons_zero, List.set_cons_succ]
  refine wpAnyH_take (i := 4) (oi := ⟨some 8, _, _, _, _, _⟩) (v := .bool true) rfl (by kernel_rfl) (by kernel_rfl) (by kernel_rfl) (fun _ _ _ h => h) (.inl ⟨by rfl, fun W1 h1 => by go_simp⟩) hW1 ?_
  try simp only [Act.put, List.setIfInBounds_toArray, List.set_cons_zero, List.set_cons_succ]
  refine wpAnyH_take (i := 5) (oi := ⟨some 9, _, _, _, _, _⟩) rfl (by kernel_rfl) (by kernel_rfl) (by kernel_rfl) (fun _ _ _ h => h) (yieldsIf_load_row (by rfl) 56 _ rfl w.heap.size rfl 56 cs (0, 0) _ (fun _ h => h.1) Try.underlying56 rfl hi) hW1 ?_
  try simp only [Act.put, List.setIfInBounds_toArray, List.set_cons_zero, List.set_cons_succ]
  refine wpAnyH_ready (rs := [6]) (by kernel_rfl) (by simp) (AllReadyH.cons rfl (fun K2 hK2 => ?_) AllReadyH.nil)
  go_simp
  refine (HS.out _).mono ?_
  rintro e w2 ⟨rfl, b2⟩
  refine hK2.out _ _ (⟨blk_below hW1.1 b2, hW1.2.1.trans (b2.mono hW1.2.1.size), Nat.lt_of_lt_of_le hW1.2.2 b2.size⟩) (fun hW2 => ?_)
  try simp only [Act.put, List.setIfInBounds_toArray, List.set_cons_zero, List.set_cons_succ]
  refine wpAnyH_take (i := 7) (oi := ⟨some 11, _, _, _, _, _⟩) (v := .bool true) rfl (by kernel_rfl) (by kernel_rfl) (by kernel_rfl) (fun _ _ _ h => h) (.inl ⟨by rfl, fun W1 h1 => by go_simp⟩) hW2 ?_
  try simp only [Act.put, List.setIfInBounds_toArray, List.set_cons_zero, List.set_cons_succ]
  refine wpAnyH_take (i := 8) (oi := ⟨some 12, _, _, _, _, _⟩) (v := .bool true) rfl (by kernel_rfl) (by kernel_rfl) (by kernel_rfl) (fun _ _ _ h => h) (.inl ⟨by rfl, fun W1 h1 => by go_simp⟩) hW2 ?_
  try simp only [Act.put, List.setIfInBounds_toArray, List.set_cons_zero, List.set_cons_succ]
  refine wpAnyH_take (i := 9) (oi := ⟨some 13, _, _, _, _, _⟩) (v := .bool true) rfl (by kernel_rfl) (by kernel_rfl) (by kernel_rfl) (fun _ _ _ h => h) (.inl ⟨by rfl, fun W1 h1 => by go_simp⟩) hW2 ?_
  try simp only [Act.put, List.setIfInBounds_toArray, List.set_cons_zero, List.set_cons_succ]
  refine wpAnyH_take (i := 10) (oi := ⟨some 14, _, _, _, _, _⟩) (v := .func (.func 109) #[] #[]) rfl (by kernel_rfl) (by kernel_rfl) (by kernel_rfl) (fun _ _ _ h => h) (.inl ⟨by rfl, fun W1 h1 => by go_simp⟩) hW2 ?_
  try simp only [Act.put, List.setIfInBounds_toArray, List.set_cons_zero, List.set_cons_succ]
  refine wpAnyH_take (i := 11) (oi := ⟨some 15, _, _, _, _, _⟩) (v := .pointer (some ⟨w.heap.size, 0, none⟩)) rfl (by kernel_rfl) (by kernel_rfl) (by kernel_rfl) (fun _ _ _ h => h) (.inl ⟨by rfl, fun W1 h1 => by go_simp⟩) hW2 ?_
  try simp only [Act.put, List.setIfInBounds_toArray, List.set_cons_zero, List.set_cons_succ]
  refine wpAnyH_take (i := 12) (oi := ⟨some 16, _, _, _, _, _⟩) (v := .int .i64 p.at_) rfl (by kernel_rfl) (by kernel_rfl) (by kernel_rfl) (fun _ _ _ h => h) (.inl ⟨by rfl, fun W1 h1 => by (have x0 : W1.cell? ⟨w.heap.size, 0, none⟩ = some (.int .i64 p.at_) := (by rw [cell_of_row W1 _ 0 cs 56 (0, 0) h1.1]; exact HP.out.c0)); go_simp⟩) hW2 ?_
  try simp only [Act.put, List.setIfInBounds_toArray, List.set_cons_zero, List.set_cons_succ]
  refine wpAnyH_take (i := 13) (oi := ⟨some 17, _, _, _, _, _⟩) rfl (by kernel_rfl) (by kernel_rfl) (by kernel_rfl) (fun _ _ _ h => h) (yieldsIf_load_row (by rfl) 56 _ rfl w.heap.size rfl 56 cs (0, 0) _ (fun _ h => h.1) Try.underlying56 rfl hi) hW2 ?_
  try simp only [Act.put, List.setIfInBounds_toArray, List.set_cons_zero, List.set_cons_succ]
  refine wpAnyH_ready (rs := [14]) (by kernel_rfl) (by simp) (AllReadyH.cons rfl (fun K3 hK3 => ?_) AllReadyH.nil)
  go_simp
  refine (HS.out _).mono ?_
  rintro e w3 ⟨rfl, b3⟩
  refine hK3.out _ _ (⟨blk_below hW2.1 b3, hW2.2.1.trans (b3.mono hW2.2.1.size), Nat.lt_of_lt_of_le hW2.2.2 b3.size⟩) (fun hW3 => ?_)
  try simp only [Act.put, List.setIfInBounds_toArray, List.set_cons_zero, List.set_cons_succ]
  refine wpAnyH_take (i := 15) (oi := ⟨some 19, _, _, _, _, _⟩) (v := .int .i64 (8192 - sc)) rfl (by kernel_rfl) (by kernel_rfl) (by kernel_rfl) (fun _ _ _ h => h) (.inl ⟨by rfl, fun W1 h1 => by (have hw : IntKind.i64.wrap (8192 - sc) = 8192 - sc := (by rw [IntKind.wrap_i64]; omega)); go_simp⟩) hW3 ?_
  try simp only [Act.put, List.setIfInBounds_toArray, List.set_cons_zero, List.set_cons_succ]
  refine wpAnyH_ready (rs := [16]) (by kernel_rfl) (by simp) (AllReadyH.cons rfl (fun K4 hK4 => ?_) AllReadyH.nil)
  go_simp
  refine (in_no _ _ _ hl _).mono ?_
  rintro e w4 ⟨rfl, rfl⟩
  refine hK4.out _ _ (hW3) (fun hW4 => ?_)
  try simp only [Act.put, List.setIfInBounds_toArray, List.set_cons_zero, List.set_cons_succ]
  refine wpAnyH_take (i := 17) (oi := ⟨some 21, _, _, _, _, _⟩) (v := .bool false) rfl (by kernel_rfl) (by kernel_rfl) (by kernel_rfl) (fun _ _ _ h => h) (.inl ⟨by rfl, fun W1 h1 => by go_simp⟩) hW4 ?_
  try simp only [Act.put, List.setIfInBounds_toArray, List.set_cons_zero, List.set_cons_succ]
  refine wpAnyH_take (i := 18) (oi := ⟨some 2, _, _, _, _, _⟩) (v := .bool false) rfl (by kernel_rfl) (by kernel_rfl) (by kernel_rfl) (fun _ _ _ h => h) (.inl ⟨by rfl, fun W1 h1 => by go_simp⟩) hW4 ?_
  try simp only [Act.put, List.setIfInBounds_toArray, List.set_cons_zero, List.set_cons_succ]
  refine wpAnyH_done (by kernel_rfl) ?_ _
  have HB := Aside0.mk hW4.2.1
  clear HB0 G0 hs
  go_wp2
  go_ret
  exact ⟨rfl, HB.out⟩

theorem rightB_yes {p : Ptr} (h : Right p) : rightB p = true := decide_eq_true h
theorem rightB_no {p : Ptr} (h : ¬ Right p) : rightB p = false := decide_eq_false h
theorem right_calls (cs : Array Value) (p : Ptr) (hp : PC cs p) (w : World) : Calls Try.prog 66 #[.agg cs] w fun e w' => e = .returned (.bool (rightB p)) ∧ Below w.heap.size w w' := by
  have hsb := sect_bound p.len
  by_cases hb : 1 ≤ p.birth ∧ p.birth ≤ 1152921504606846976
  · by_cases hq : 0 < sect p.len
    · by_cases hl : 2 ≤ p.at_ ∧ p.at_ ≤ 8192 - sect p.len
      · rw [rightB_yes ⟨hb.1, hb.2, hq, hl.1, hl.2⟩]
        exact right_c cs p hp hb.1 hb.2 hq hl.1 hl.2 w
      · rw [rightB_no (fun h => hl ⟨h.2.2.2.1, h.2.2.2.2⟩)]
        exact right_d cs p hp hb.1 hb.2 hq hl w
    · rw [rightB_no (fun h => hq h.2.2.1)]
      exact right_b cs p hp hb.1 hb.2 (by omega) w
  · rw [rightB_no (fun h => hb ⟨h.1, h.2.1⟩)]
    exact right_a cs p hp hb w
end Go.Proofs.Ytfefpbnhpncmlaa.PtrB
/- Two pointers are compared: the cells are pointers'. -/
namespace Go.Proofs.Ytfefpbnhpncmlaa.PtrE
open Go.RowKit Go.Proofs.Ytfefpbnhpncmlaa.B8 Go.Proofs.Ytfefpbnhpncmlaa.CodL Go.Proofs.Ytfefpbnhpncmlaa.CatL Go.Proofs.Ytfefpbnhpncmlaa.PtrA
set_option linter.unusedVariables false
set_option linter.unusedSimpArgs false

/-- A pointer's cells. -/
def encP (p : Ptr) : Array Value := #[.int .i64 p.at_, .int .i64 p.birth, .int .i64 p.len, .int .u32 p.crc] ++ (p.sha.map (Value.int .u8)).toArray
theorem encP_size {p : Ptr} (h : p.sha.length = 32) : (encP p).size = 36 := by simp [encP, h]
theorem pc (p : Ptr) (h : p.sha.length = 32) : PC (encP p) p := by
  refine ⟨encP_size h, by simp [encP], by simp [encP], by simp [encP], by simp [encP], fun i hi => ?_⟩
  simp only [encP]
  rw [Array.getElem?_append_right (by simp)]
  simp [h, hi]

theorem all_range_eq : ∀ (xs ys : List Int), xs.length = ys.length → ((List.range xs.length).all fun i => xs.getD i 0 == ys.getD i 0) = (xs == ys)
  | [], [], _ => rfl
  | x :: xs, y :: ys, h => by
    have ih := all_range_eq xs ys (by simpa using h)
    rw [List.length_cons, List.range_succ_eq_map, List.all_cons, List.all_map]
    simp only [List.getD_cons_zero, Function.comp_def, List.getD_cons_succ, ih]
    simp [List.cons_beq_cons]
  | [], _ :: _, h => by simp at h
  | _ :: _, [], h => by simp at h

theorem run_equalIn_bytes {P : Program} (w : World) (d : Nat) (t e : TypeId) (n : Nat) (ht : P.underlying t = some (.array n e)) (he : P.underlying e = some (.int .u8)) (hsz : ∀ w, (sizeOf e).run P w = .ok 1 w)
    (xs ys : List Int) (hx : xs.length = n) (hy : ys.length = n) :
    (Op.equalIn (d + 2) t (.agg (xs.map (Value.int .u8)).toArray) (.agg (ys.map (Value.int .u8)).toArray)).run P w = .ok (xs == ys) w := by
  rw [← all_range_eq xs ys (hx.trans hy.symm), hx, List.range_eq_range', Op.equalIn]
  simp only [Sem.run_bind, run_underlying ht, Result.andThen_ok, hsz, Std.Legacy.Range.forIn_eq_forIn_range', Std.Legacy.Range.size, Nat.sub_zero, Nat.add_sub_cancel, Nat.div_one]
  have hl : ∀ i ∈ List.range' 0 n 1, i < n := fun i hi => by simpa using (List.mem_range'_1.1 hi).2
  generalize List.range' 0 n 1 = l at hl ⊢
  induction l with
  | nil => simp
  | cons i l ih =>
    have hi : i < n := hl i (by simp)
    have px : (part e (xs.map (Value.int .u8)).toArray (i * 1)).run P w = .ok (.int .u8 (xs.getD i 0)) w := by
      simp [part, isAgg, run_underlying he, List.getD, List.getElem?_eq_getElem (show i < xs.length by omega)]
    have py : (part e (ys.map (Value.int .u8)).toArray (i * 1)).run P w = .ok (.int .u8 (ys.getD i 0)) w := by
      simp [part, isAgg, run_underlying he, List.getD, List.getElem?_eq_getElem (show i < ys.length by omega)]
    have pe := run_equalIn_int (P := P) w d e .u8 .u8 (xs.getD i 0) (ys.getD i 0) he
    simp only [List.forIn_cons, Sem.run_bind, px, py, pe, Result.andThen_ok, List.all_cons]
    cases hq : xs.getD i 0 == ys.getD i 0 with
    | false => simp
    | true =>
      simp only [Bool.not_true, Bool.false_eq_true, if_false, Sem.run_pure, Result.andThen_ok, Bool.true_and]
      exact ih (fun i hi => hl i (by simp [hi]))

theorem fields56 : (Try.prog.fieldsOf 56).toList.map (fun f => (f.name, f.type, f.offset)) = [("At", 3, 0), ("Birth", 3, 1), ("Length", 3, 2), ("Crc", 53, 3), ("Sha", 54, 4)] := by kernel_rfl
theorem sz5 (w : World) : (sizeOf 5).run Try.prog w = .ok 1 w := by kernel_rfl
theorem sz54 (w : World) : (sizeOf 54).run Try.prog w = .ok 32 w := by kernel_rfl
theorem underl56 : Try.prog.underlying 56 = some (.struct (Try.prog.fieldsOf 56)) := by kernel_rfl
theorem stood56 : Try.prog.stoodInHeld 56 = false := by kernel_rfl
theorem agg3 (w : World) : (isAgg 3).run Try.prog w = .ok false w := by kernel_rfl
theorem agg53 (w : World) : (isAgg 53).run Try.prog w = .ok false w := by kernel_rfl
theorem agg54 (w : World) : (isAgg 54).run Try.prog w = .ok true w := by kernel_rfl
theorem part_sha {p : Ptr} (h : p.sha.length = 32) (w : World) : (part 54 (encP p) 4).run Try.prog w = .ok (.agg (p.sha.map (Value.int .u8)).toArray) w := by
  unfold part
  simp only [Sem.run_bind, agg54, sz54, Result.andThen_ok, if_true, Sem.run_pure]
  congr 2
  apply Array.ext'
  simp [encP, h, List.take_of_length_le]
/-- Two pointers are equal, or not. -/
theorem eq56 (p q : Ptr) (hp : p.sha.length = 32) (hq : q.sha.length = 32) (w : World) : (Op.equalIn 10000 56 (.agg (encP p)) (.agg (encP q))).run Try.prog w = .ok (decide (p = q)) w := by
  have hf := fields56
  rw [show (10000 : Nat) = 9999 + 1 from rfl, run_equalIn_struct w 9999 56 _ _ underl56 stood56]
  generalize (Try.prog.fieldsOf 56).toList = fs at hf
  rcases fs with _ | ⟨f0, fs⟩; · simp at hf
  rcases fs with _ | ⟨f1, fs⟩; · simp at hf
  rcases fs with _ | ⟨f2, fs⟩; · simp at hf
  rcases fs with _ | ⟨f3, fs⟩; · simp at hf
  rcases fs with _ | ⟨f4, fs⟩; · simp at hf
  rcases fs with _ | ⟨f5, fs⟩
  · simp only [List.map_cons, List.map_nil, List.cons.injEq, Prod.mk.injEq, and_true] at hf
    obtain ⟨⟨n0, t0, o0⟩, ⟨n1, t1, o1⟩, ⟨n2, t2, o2⟩, ⟨n3, t3, o3⟩, n4, t4, o4⟩ := hf
    have a0 : ∀ (p : Ptr) (w : World), (part 3 (encP p) 0).run Try.prog w = .ok (.int .i64 p.at_) w := fun p w => by simp [part, agg3, encP]
    have a1 : ∀ (p : Ptr) (w : World), (part 3 (encP p) 1).run Try.prog w = .ok (.int .i64 p.birth) w := fun p w => by simp [part, agg3, encP]
    have a2 : ∀ (p : Ptr) (w : World), (part 3 (encP p) 2).run Try.prog w = .ok (.int .i64 p.len) w := fun p w => by simp [part, agg3, encP]
    have a3 : ∀ (p : Ptr) (w : World), (part 53 (encP p) 3).run Try.prog w = .ok (.int .u32 p.crc) w := fun p w => by simp [part, agg53, encP]
    have e0 : ("At" = "_") = False := by decide
    have e1 : ("Birth" = "_") = False := by decide
    have e2 : ("Length" = "_") = False := by decide
    have e3 : ("Crc" = "_") = False := by decide
    have e4 : ("Sha" = "_") = False := by decide
    have q3 : ∀ (x y : Int) (w : World), (Op.equalIn 9999 3 (.int .i64 x) (.int .i64 y)).run Try.prog w = .ok (x == y) w := fun x y w => run_equalIn_int (P := Try.prog) w 9998 3 .i64 .i64 x y Try.underlying3
    have q53 : ∀ (x y : Int) (w : World), (Op.equalIn 9999 53 (.int .u32 x) (.int .u32 y)).run Try.prog w = .ok (x == y) w := fun x y w => run_equalIn_int (P := Try.prog) w 9998 53 .u32 .u32 x y Try.underlying53
    have qs : ∀ w : World, (Op.equalIn 9999 54 (.agg (p.sha.map (Value.int .u8)).toArray) (.agg (q.sha.map (Value.int .u8)).toArray)).run Try.prog w = .ok (p.sha == q.sha) w := fun w => run_equalIn_bytes (P := Try.prog) w 9997 54 5 32 Try.underlying54 Try.underlying5 sz5 _ _ hp hq
    have s1 := fun w => part_sha hp w
    have s2 := fun w => part_sha hq w
    have hd : decide (p = q) = (p.at_ == q.at_ && (p.birth == q.birth && (p.len == q.len && (p.crc == q.crc && p.sha == q.sha)))) := by
      obtain ⟨pa, pb, pl, pc', ps⟩ := p
      obtain ⟨qa, qb, ql, qc, qs⟩ := q
      simp only [Ptr.mk.injEq]
      rw [Bool.eq_iff_iff]
      simp
    rw [hd]
    cases h0 : p.at_ == q.at_ <;> cases h1 : p.birth == q.birth <;> cases h2 : p.len == q.len <;> cases h3 : p.crc == q.crc <;> cases h4 : p.sha == q.sha <;>
      simp [Op.eqFields, n0, n1, n2, n3, n4, t0, t1, t2, t3, t4, o0, o1, o2, o3, o4, a0, a1, a2, a3, q3, q53, qs, s1, s2, h0, h1, h2, h3, h4, Result.andThen]
  · simp at hf
theorem eql56 (p q : Ptr) (hp : p.sha.length = 32) (hq : q.sha.length = 32) (w : World) : (binOp .eql 56 (.agg (encP p)) (.agg (encP q))).run Try.prog w = .ok (.bool (decide (p = q))) w := by
  rw [run_eql_struct, eq56 p q hp hq]
  rfl
theorem neq56 (p q : Ptr) (hp : p.sha.length = 32) (hq : q.sha.length = 32) (w : World) : (binOp .neq 56 (.agg (encP p)) (.agg (encP q))).run Try.prog w = .ok (.bool (!decide (p = q))) w := by
  rw [run_neq_struct, eq56 p q hp hq]
  rfl
end Go.Proofs.Ytfefpbnhpncmlaa.PtrE
/- pointer.None, and the document's: contracts; the cells are a pointer's. -/
namespace Go.Proofs.Ytfefpbnhpncmlaa.PtrF
open Go.RowKit Go.Proofs.Ytfefpbnhpncmlaa.B8 Go.Proofs.Ytfefpbnhpncmlaa.CodL Go.Proofs.Ytfefpbnhpncmlaa.CatL Go.Proofs.Ytfefpbnhpncmlaa.PtrA Go.Proofs.Ytfefpbnhpncmlaa.PtrB Go.Proofs.Ytfefpbnhpncmlaa.PtrE Go.Proofs.Ytfefpbnhpncmlaa.PBaseSigns Go.Proofs.YtfefpbnhpncmlaaW.PrintWords Go.Proofs.YtfefpbnhpncmlaaW.PrintLast Go.Proofs.YtfefpbnhpncmlaaW.PrintMore
set_option linter.unusedVariables false
set_option linter.unusedSimpArgs false

/-- The pointer of nothing, as cells. -/
abbrev Z56 : Array Value := #[.int .i64 0, .int .i64 0, .int .i64 0, .int .u32 0, .int .u8 0, .int .u8 0, .int .u8 0, .int .u8 0, .int .u8 0, .int .u8 0, .int .u8 0, .int .u8 0, .int .u8 0, .int .u8 0, .int .u8 0, .int .u8 0, .int .u8 0, .int .u8 0, .int .u8 0, .int .u8 0, .int .u8 0, .int .u8 0, .int .u8 0, .int .u8 0, .int .u8 0, .int .u8 0, .int .u8 0, .int .u8 0, .int .u8 0, .int .u8 0, .int .u8 0, .int .u8 0, .int .u8 0, .int .u8 0, .int .u8 0, .int .u8 0]
theorem enc_zero : encP zeroP = Z56 := by kernel_rfl
theorem i56 : (Try.prog.info? 56).map (·.size) = some Z56.size := by kernel_rfl
theorem a56 : Z56.all (·.oneCell') = true := by decide +kernel
theorem si {p : Ptr} (h : p.sha.length = 32) : (Try.prog.info? 56).map (·.size) = some (encP p).size := by rw [encP_size h]; kernel_rfl

theorem none_calls (p : Ptr) (h : p.sha.length = 32) (w : World) : Calls Try.prog 73 #[.agg (encP p)] w fun e w' => e = .returned (.bool (decide (p = zeroP))) ∧ Below w.heap.size w w' := by
  have hq : ∀ W : World, (binOp .eql 56 (.agg (encP p)) (.agg Z56)).run Try.prog W = .ok (.bool (decide (p = zeroP))) W := fun W => by rw [← enc_zero]; exact eql56 p zeroP h rfl W
  have g := blk_new w (.cells (encP p) 56)
  have hi := si h
  generalize encP p = cs at *
  go_enter Try.func73, Try.ntmps73
  go_wp2_with (refine wpList_load_row rfl 56 _ rfl _ rfl 56 cs (0, 0) _ g Try.underlying56 rfl hi ?_)
  go_ret
  exact ⟨rfl, below_alloc (Below.refl _ _) _⟩
end Go.Proofs.Ytfefpbnhpncmlaa.PtrF
/- pointer.Put: a contract; the pointer is one, or none. -/
namespace Go.Proofs.Ytfefpbnhpncmlaa.PtrG
open Go.RowKit Go.Proofs.Ytfefpbnhpncmlaa.B8 Go.Proofs.Ytfefpbnhpncmlaa.CodL Go.Proofs.Ytfefpbnhpncmlaa.CodA Go.Proofs.Ytfefpbnhpncmlaa.CodB Go.Proofs.Ytfefpbnhpncmlaa.CatL Go.Proofs.Ytfefpbnhpncmlaa.PtrA Go.Proofs.Ytfefpbnhpncmlaa.PtrB Go.Proofs.Ytfefpbnhpncmlaa.PtrE Go.Proofs.Ytfefpbnhpncmlaa.PtrF Go.Proofs.Ytfefpbnhpncmlaa.PBaseSigns Go.Proofs.YtfefpbnhpncmlaaW.PrintWords Go.Proofs.YtfefpbnhpncmlaaW.PrintLast Go.Proofs.YtfefpbnhpncmlaaW.PrintMore
set_option linter.unusedVariables false
set_option linter.unusedSimpArgs false

/-- A new block of numbers, read. -/
theorem C64_new (w : World) (c : List Int) (t : TypeId) (hc : c.length ≤ 9223372036854775807) : Kd.C (Kd.int .u64) (w.alloc (.cells (c.map (Value.int .u64)).toArray t)) (some ⟨w.heap.size, 0, none⟩) c.length c := by
  refine ⟨rfl, hc, fun _ => ⟨_, rfl, fun j p hj => ⟨[.int .u64 p], rfl, rfl, fun i u hu => ?_⟩⟩⟩
  match i with
  | 0 =>
    simp only [show (Kd.int .u64).sz = 1 from rfl, Nat.mul_one, Nat.add_zero]
    rw [show (⟨w.heap.size, 0, none⟩ : Addr).add j = ⟨w.heap.size, j, none⟩ from by rw [add_at]; simp]
    simp only [World.cell?_alloc_new]
    simp only [List.getElem?_cons_zero, Option.some.injEq] at hu
    subst hu
    simp [hj]
  | i + 1 => simp at hu
theorem C64_at (w : World) (c : List Int) (t : TypeId) (n : Nat) (hn : n = w.heap.size) (hc : c.length ≤ 9223372036854775807) : Kd.C (Kd.int .u64) (w.alloc (.cells (c.map (Value.int .u64)).toArray t)) (some ⟨n, 0, none⟩) c.length c := by subst hn; exact C64_new w c t hc
/-- A row of bytes is told, to be read. -/
def Reads (w : World) (l : List Int) (e : Ending) (w' : World) : Prop := ∃ A c, e = .returned (.slice A l.length c) ∧ l.length ≤ c ∧ C8 w' A l.length l ∧ Below w.heap.size w w'
theorem Tells.reads {w w' : World} {l : List Int} {e : Ending} (h : Tells w l e w') : Reads w l e w' := by
  obtain ⟨v, rfl, hr, hb⟩ := h
  obtain ⟨A, c, rfl, hle, hC⟩ := Kd.R_reads hr
  exact ⟨A, c, rfl, hle, hC, hb⟩
theorem fixed_reads (A : Option Addr) (c n : Nat) (l l1 : List Int) (hn : n = l.length) (size : Nat) (B : Option Addr) (d m : Nat) (ns : List Int) (hmn : m = ns.length) (w : World) (hl : l1 = l ++ ns.flatMap (fixedL size)) (hr : C8 w A l.length l) (hm : l.length ≤ 1000000) (h1 : 1 ≤ size) (h8 : size ≤ 8)
    (hq : Kd.C (Kd.int .u64) w B ns.length ns) (hk : ns.length ≤ 4) (hx : ∀ x ∈ ns, 0 ≤ x ∧ x < 18446744073709551616) :
    Calls Try.prog 90 #[.slice A n c, .int .i64 (size : Int), .slice B m d] w (Reads w l1) := by
  subst hn; subst hl; subst hmn
  exact (fixed_calls A c l size B d ns w hr hm h1 h8 hq hk hx).mono fun e w' h => Tells.reads h
theorem wrap64u (x : Int) (h0 : 0 ≤ x) (h1 : x < 18446744073709551616) : IntKind.u64.wrap x = x := wraps_u64 x h0 (by omega)

set_option maxRecDepth 100000 in
set_option maxHeartbeats 2000000 in
theorem put_calls (A : Option Addr) (c : Nat) (l : List Int) (p : Ptr) (hp : Lays p) (w : World) (hr : C8 w A l.length l) (hm : l.length ≤ 900000) :
    Calls Try.prog 104 #[.slice A l.length c, .agg (encP p)] w (Tells w (l ++ ptrL p)) := by
  have hb := hp.bounds
  have hk := hp.1
  have hc0 := hk.crc0
  have hc1 := hk.crc1
  have g := blk_new w (.cells (encP p) 56)
  have q := pc p hk.len
  have HB0 := Aside0.mk (below_alloc (Below.refl w.heap.size w) (.cells (encP p) 56))
  have HR := Aside0.mk (Kd.C_below hr HB0.out)
  have x0 : (w.alloc (.cells (encP p) 56)).cell? ⟨w.heap.size, 0, none⟩ = some (.int .i64 p.at_) := by rw [cell_of_row _ _ 0 _ 56 (0, 0) g]; exact q.c0
  have x2 : (w.alloc (.cells (encP p) 56)).cell? ⟨w.heap.size, 2, none⟩ = some (.int .i64 p.len) := by rw [cell_of_row _ _ 2 _ 56 (0, 0) g]; exact q.c2
  have w0 := wrap64u p.at_ (by omega) (by omega)
  have w1 := wrap64u p.birth (by omega) (by omega)
  have w2 := wrap64u p.len (by omega) (by omega)
  have w3 := wrap64u p.crc (by omega) (by omega)
  have G := Aside0.mk g
  have Q := Aside0.mk q
  have HP := Aside0.mk hp
  have hsz : w.heap.size < (w.alloc (.cells (encP p) 56)).heap.size := by simp
  clear hr g q
  generalize encP p = cs at *
  obtain ⟨l1, hL1⟩ : ∃ l1, l1 = l ++ [p.at_, p.len].flatMap (fixedL 4) := ⟨_, rfl⟩
  obtain ⟨l2, hL2⟩ : ∃ l2, l2 = l1 ++ [p.birth].flatMap (fixedL 8) := ⟨_, rfl⟩
  obtain ⟨l3, hL3⟩ : ∃ l3, l3 = l2 ++ [p.crc].flatMap (fixedL 4) := ⟨_, rfl⟩
  have hl1 : l1.length = l.length + 8 := by rw [hL1]; simp [fixedL_len]
  have hl2 : l2.length = l.length + 16 := by rw [hL2]; simp [fixedL_len, hl1]
  have hl3 : l3.length = l.length + 20 := by rw [hL3]; simp [fixedL_len, hl2]
  have HL := Aside0.mk (And.intro hL1 (And.intro hL2 hL3))
  have HN := Aside0.mk (And.intro hl1 (And.intro hl2 hl3))
  clear hL1 hL2 hL3 hl1 hl2 hl3
  go_enter Try.func104, Try.ntmps104
  go_wp2_with fail
  refine (fixed_reads A c l.length l l1 rfl 4 (some ⟨w.heap.size + 1, 0, none⟩) 2 2 [p.at_, p.len] rfl ((w.alloc (.cells cs 56)).alloc (.cells #[.int .u64 p.at_, .int .u64 p.len] 103)) HL.out.1 (Kd.C_below HR.out (below_alloc (Below.refl _ _) _)) (by omega) (by omega) (by omega) (C64_at (w.alloc (.cells cs 56)) [p.at_, p.len] 103 _ (by simp) (by simp)) (by simp) (by intro x hx; simp at hx; omega)).mono ?_
  rintro e u1 ⟨A1, c1, rfl, hle1, hC1, hb1⟩
  have HB1 := Aside0.mk (below_then (below_alloc HB0.out _) (by simp; omega) hb1)
  have G1 := Aside0.mk (blk_below (blk_alloc G.out _) hb1)
  have HC1 := Aside0.mk (And.intro hC1 hle1)
  clear hb1 hC1 hle1 HB0 x0 x2
  have x1 : u1.cell? ⟨w.heap.size, 1, none⟩ = some (.int .i64 p.birth) := by rw [cell_of_row _ _ 1 _ 56 (0, 0) G1.out]; exact Q.out.c1
  go_wp2_with fail
  refine (fixed_reads A1 c1 l1.length l1 l2 rfl 8 (some ⟨u1.heap.size, 0, none⟩) 1 1 [p.birth] rfl (u1.alloc (.cells #[.int .u64 p.birth] 103)) HL.out.2.1 (Kd.C_below HC1.out.1 (below_alloc (Below.refl _ _) _)) (by have := HN.out.1; omega) (by omega) (by omega) (C64_at u1 [p.birth] 103 _ rfl (by simp)) (by simp) (by intro x hx; simp at hx; omega)).mono ?_
  rintro e u2 ⟨A2, c2, rfl, hle2, hC2, hb2⟩
  have HB2 := Aside0.mk (below_then (below_alloc HB1.out _) (by have := HB1.out.size; simp; omega) hb2)
  have G2 := Aside0.mk (blk_below (blk_alloc G1.out _) hb2)
  have HC2 := Aside0.mk (And.intro hC2 hle2)
  clear hb2 hC2 hle2 HB1 x1 HC1 G1
  go_wp2_with fail
  have hsz2 : w.heap.size < u2.heap.size := blk_lt G2.out
  clear hsz G w0 w1 w2
  refine wp_region_held_drew (S := fun w' => w'.heap[w.heap.size]? = some (.cells cs 56 (0, 0)) ∧ C8 w' A2 l2.length l2 ∧ Below w.heap.size w w' ∧ Below u2.heap.size u2 w') (by kernel_rfl) ⟨G2.out, Kd.C_below HC2.out.1 (below_drew (Below.refl _ _)), below_drew HB2.out, below_drew (Below.refl _ _)⟩ (fun hW => ?_)
  refine wpAnyH_take (i := 0) (oi := ⟨some 20, _, _, _, _, _⟩) (v := .slice A2 l2.length c2) rfl (by kernel_rfl) (by kernel_rfl) (by kernel_rfl) (fun _ _ _ h => h) (.inl ⟨by rfl, fun W1 h1 => by go_simp⟩) hW ?_
  try simp only [Act.put, List.setIfInBounds_toArray, List.set_cons_zero, List.set_cons_succ]
  refine wpAnyH_take (i := 1) (oi := ⟨some 21, _, _, _, _, _⟩) (v := .pointer (some ⟨w.heap.size, 3, none⟩)) rfl (by kernel_rfl) (by kernel_rfl) (by kernel_rfl) (fun _ _ _ h => h) (.inl ⟨by rfl, fun W1 h1 => by go_simp⟩) hW ?_
  try simp only [Act.put, List.setIfInBounds_toArray, List.set_cons_zero, List.set_cons_succ]
  refine wpAnyH_take (i := 2) (oi := ⟨some 22, _, _, _, _, _⟩) (v := .int .u32 p.crc) rfl (by kernel_rfl) (by kernel_rfl) (by kernel_rfl) (fun _ _ _ h => h) (.inl ⟨by rfl, fun W1 h1 => by (have x3 : W1.cell? ⟨w.heap.size, 3, none⟩ = some (.int .u32 p.crc) := (by rw [cell_of_row W1 _ 3 cs 56 (0, 0) h1.1]; exact Q.out.c3)); go_simp⟩) hW ?_
  try simp only [Act.put, List.setIfInBounds_toArray, List.set_cons_zero, List.set_cons_succ]
  refine wpAnyH_take (i := 3) (oi := ⟨some 23, _, _, _, _, _⟩) (v := .int .u64 p.crc) rfl (by kernel_rfl) (by kernel_rfl) (by kernel_rfl) (fun _ _ _ h => h) (.inl ⟨by rfl, fun W1 h1 => by go_simp⟩) hW ?_
  try simp only [Act.put, List.setIfInBounds_toArray, List.set_cons_zero, List.set_cons_succ]
  refine wpAnyH_take (i := 6) (oi := ⟨some 26, _, _, _, _, _⟩) (v := .pointer (some ⟨w.heap.size, 4, none⟩)) rfl (by kernel_rfl) (by kernel_rfl) (by kernel_rfl) (fun _ _ _ h => h) (.inl ⟨by rfl, fun W1 h1 => by go_simp⟩) hW ?_
  try simp only [Act.put, List.setIfInBounds_toArray, List.set_cons_zero, List.set_cons_succ]
  refine wpAnyH_take (i := 7) (oi := ⟨some 27, _, _, _, _, _⟩) (v := .slice (some ⟨w.heap.size, 4, none⟩) 32 32) rfl (by kernel_rfl) (by kernel_rfl) (by kernel_rfl) (fun _ _ _ h => h) (.inl ⟨by rfl, fun W1 h1 => by go_simp⟩) hW ?_
  try simp only [Act.put, List.setIfInBounds_toArray, List.set_cons_zero, List.set_cons_succ]
  refine wpAnyH_ready (rs := [4]) (by kernel_rfl) (by simp) (AllReadyH.cons rfl (fun K1 hK1 => ?_) AllReadyH.nil)
  go_simp
  have g4 := blk_new u2 (.cells #[.int .u64 p.crc] 103)
  have b4 : Below (u2.drew).heap.size u2.drew ((u2.alloc (.cells #[.int .u64 p.crc] 103)).drew) := (have h := (Below.refl u2.heap.size u2).alloc (Nat.le_refl _) (.cells #[.int .u64 p.crc] 103); ⟨h.os, h.tape, h.output, h.size, h.block⟩)
  have q4 : Kd.C (Kd.int .u64) ((u2.alloc (.cells #[.int .u64 p.crc] 103)).drew) (some ⟨u2.heap.size, 0, none⟩) 1 [p.crc] := Kd.C_below (C64_at u2 [p.crc] 103 _ rfl (by simp)) (below_drew (Below.refl _ _))
  refine hK1.out _ _ ⟨blk_below hW.1 b4, Kd.C_below hW.2.1 b4, hW.2.2.1.trans (b4.mono hW.2.2.1.size), hW.2.2.2.trans (b4.mono hW.2.2.2.size)⟩ (fun hW1 => ?_)
  try simp only [Act.put, List.setIfInBounds_toArray, List.set_cons_zero, List.set_cons_succ]
  generalize (u2.alloc (.cells #[.int .u64 p.crc] 103)).drew = u4 at *
  refine wpAnyH_ready (rs := [5]) (by kernel_rfl) (by simp) (AllReadyH.cons rfl (fun K2 hK2 => ?_) AllReadyH.nil)
  go_simp
  refine (fixed_calls A2 c2 l2 4 (some ⟨u2.heap.size, 0, none⟩) 1 [p.crc] u4 hW1.2.1 (by have := HN.out.2.1; omega) (by omega) (by omega) q4 (by simp) (by intro x hx; simp at hx; omega)).mono ?_
  rintro e u5 ⟨v5, rfl, hr5, hb5⟩
  refine hK2.out _ _ ⟨blk_below hW1.1 hb5, Kd.C_below hW1.2.1 hb5, hW1.2.2.1.trans (hb5.mono hW1.2.2.1.size), hW1.2.2.2.trans (hb5.mono hW1.2.2.2.size)⟩ (fun hW2 => ?_)
  try simp only [Act.put, List.setIfInBounds_toArray, List.set_cons_zero, List.set_cons_succ]
  refine wpAnyH_ready (rs := [8]) (by kernel_rfl) (by simp) (AllReadyH.cons rfl (fun K3 hK3 => ?_) AllReadyH.nil)
  obtain ⟨i0, hi0, hz0, hz1, hz2⟩ := info_parts info5
  rw [← HL.out.2.2] at hr5
  have hcell : ∀ j u, (p.sha.map (Value.int .u8))[j]? = some u → u5.cell? ((⟨w.heap.size, 4, none⟩ : Addr).add j) = some u := by
    intro j u hj
    rw [List.getElem?_map] at hj
    have hj32 : j < 32 := by
      rcases Nat.lt_or_ge j 32 with h | h
      · exact h
      · rw [List.getElem?_eq_none (by have := HP.out.1.len; omega)] at hj
        simp at hj
    rw [show (⟨w.heap.size, 4, none⟩ : Addr).add j = ⟨w.heap.size, 4 + j, none⟩ from by rw [add_at], cell_of_row u5 _ (4 + j) cs 56 (0, 0) hW2.1, Q.out.sha j hj32]
    have := HP.out.1.len
    rw [List.getElem?_eq_getElem (by omega)] at hj
    simp only [Option.map_some, Option.some.injEq] at hj
    rw [← hj]
    simp [List.getD, List.getElem?_eq_getElem (show j < p.sha.length by omega)]
  have hbase : u4.heap.size ≤ u5.heap.size := hb5.size
  refine wp_append_own (o := ⟨some 28, _, _, _, _, _⟩) _ (.tmp 25) (.tmp 27) 31 rfl u4.heap.size 5 i0 (.int .u8 0) 1 1 Try.underlying31 hi0 hz0 hz1 hz2 rfl (by decide) v5 l3.length (encs (Value.int .u8) l3) rfl (Kd.own_of_R hr5) ⟨w.heap.size, 4, none⟩ 32 32 (p.sha.map (Value.int .u8)) rfl ?c1 hcell ?c2 ?c3 ?c4 hbase ?_
  case c1 => simp [HP.out.1.len]
  case c2 => intro u hu; simp only [List.mem_map] at hu; obtain ⟨x, _, rfl⟩ := hu; rfl
  case c3 => have := HN.out.2.2; simp only [maxLen]; omega
  case c4 => have := HN.out.2.2; omega
  intro v6 u6 hown hgrow _
  have hb6 : Below u4.heap.size u4 u6 := hb5.grown hgrow hbase (fun k hk => (World.ownsRow.lt (Kd.own_of_R hr5) k hk).1)
  refine hK3.out _ _ ⟨blk_below hW1.1 hb6, Kd.C_below hW1.2.1 hb6, hW1.2.2.1.trans (hb6.mono hW1.2.2.1.size), hW1.2.2.2.trans (hb6.mono hW1.2.2.2.size)⟩ (fun hW3 => ?_)
  try simp only [Act.put, List.setIfInBounds_toArray, List.set_cons_zero, List.set_cons_succ]
  refine wpAnyH_take (i := 9) (oi := ⟨some 4, _, _, _, _, _⟩) (v := v6) rfl (by kernel_rfl) (by kernel_rfl) (by kernel_rfl) (fun _ _ _ h => h) (.inl ⟨by rfl, fun _ _ => by go_simp⟩) hW3 ?_
  try simp only [Act.put, List.setIfInBounds_toArray, List.set_cons_zero, List.set_cons_succ]
  refine wpAnyH_done (by kernel_rfl) ?_ _
  have HB := Aside0.mk hW3.2.2.1
  have HV : R8 u6 w.heap.size v6 (l3 ++ p.sha) := by
    refine Kd.R_of_own ?_ (fun _ _ => trivial)
    have := own_weaken hown hW1.2.2.1.size
    simpa [encs, HP.out.1.len] using this
  have HV := Aside0.mk HV
  clear hK1 hK2 hK3 K1 K2 K3 hW hW1 hW2 hW3 hown hgrow hb6 hb5 hr5 hcell hbase
  go_wp2
  go_ret
  refine ⟨v6, rfl, ?_, HB.out⟩
  have h := HV.out
  rw [HL.out.2.2, HL.out.2.1, HL.out.1] at h
  simpa [ptrL, List.append_assoc] using h
end Go.Proofs.Ytfefpbnhpncmlaa.PtrG
/- pointer.Read: its closure (the next number), a contract. -/
namespace Go.Proofs.Ytfefpbnhpncmlaa.PtrH
open Go.RowKit Go.Proofs.Ytfefpbnhpncmlaa.B8 Go.Proofs.Ytfefpbnhpncmlaa.CodL Go.Proofs.Ytfefpbnhpncmlaa.CodA Go.Proofs.Ytfefpbnhpncmlaa.CodB Go.Proofs.Ytfefpbnhpncmlaa.CatL Go.Proofs.Ytfefpbnhpncmlaa.PtrA Go.Proofs.Ytfefpbnhpncmlaa.PtrB Go.Proofs.Ytfefpbnhpncmlaa.PtrE Go.Proofs.Ytfefpbnhpncmlaa.PtrF Go.Proofs.Ytfefpbnhpncmlaa.PBaseSigns Go.Proofs.YtfefpbnhpncmlaaW.PrintWords Go.Proofs.YtfefpbnhpncmlaaW.PrintLast Go.Proofs.YtfefpbnhpncmlaaW.PrintMore
set_option linter.unusedVariables false
set_option linter.unusedSimpArgs false

theorem take_all (A : Option Addr) (c n : Nat) (l : List Int) (hn : n = l.length) (w : World) (hr : C8 w A n l) (hb : Byt l) (hc : n ≤ c) (h1 : 1 ≤ n) (h8 : n ≤ 8) :
    Calls Try.prog 95 #[.slice A n c, .int .i64 (n : Int)] w (TellsTake w (leL l) []) := by
  subst hn
  have h := take_calls A c l l.length w hr hb hc (by omega) h1 h8 (Nat.le_refl _)
  rwa [List.take_length, List.drop_length] at h

/-- What a number is told, and that the bytes' variable has gone on. -/
def TellsNext (B : World) (g size c : Nat) (l : List Int) (w : World) (e : Ending) (w' : World) : Prop :=
  e = .returned (.int .u64 (leL (l.take size))) ∧ Below B.heap.size B w' ∧ KeepBut w w' g none ∧
  ∃ A2, C8 B A2 (l.length - size) (l.drop size) ∧ w'.heap[g]? = some (.cells #[.slice A2 (l.length - size) (c - size)] 31 (0, 0))

set_option maxRecDepth 100000 in
set_option maxHeartbeats 200000 in
theorem next_calls (B : World) (g : Nat) (A : Option Addr) (c n : Nat) (l : List Int) (hn : n = l.length) (size : Nat) (w : World) (hB : Below B.heap.size B w) (hBg : B.heap.size ≤ g)
    (hg : w.heap[g]? = some (.cells #[.slice A n c] 31 (0, 0))) (hr : C8 B A n l) (hb : Byt l) (hc : n ≤ c) (hm : n ≤ 1000000) (h1 : 1 ≤ size) (h8 : size ≤ 8) (hs : size ≤ n) :
    Calls Try.prog 126 #[.int .i64 (size : Int), .pointer (some ⟨g, 0, none⟩)] w (TellsNext B g size c l w) := by
  have hcut := cut8_to A n c size hs hc
  have hcut2 := cut8_from A n c size hs
  have HD := Aside0.mk (C8_drop hr hc hs)
  have HT := Aside0.mk (B8.C_take (Kd.C_below hr hB) hs)
  generalize (if c = size then A else A.map (·.add size)) = A2 at hcut2 HD
  have x0 : w.cell? ⟨g, 0, none⟩ = some (.slice A n c) := by rw [cell_of_row w g 0 _ 31 (0, 0) hg]; rfl
  have HG := Aside0.mk hg
  have HBB := Aside0.mk hB
  have hgl := blk_lt hg
  have HN := Aside0.mk hn
  have HBY := Aside0.mk hb
  obtain ⟨l0, hl0⟩ : ∃ l0, l0 = l.take size := ⟨_, rfl⟩
  have hl0n : Aside0 (size = l0.length) := Aside0.mk <| by rw [hl0, List.length_take]; omega
  have HL0 := Aside0.mk hl0
  rw [← hl0] at HT
  clear hr hb hn hg hB hl0
  go_enter Try.func126, Try.ntmps126
  go_wp2_with fail
  refine (take_all A c size l0 hl0n.out w HT.out (by rw [HL0.out]; exact HBY.out.take _) (by omega) h1 h8).mono ?_
  rintro e w1 ⟨v, rfl, _, hb1⟩
  have HB1 := Aside0.mk hb1
  have x1 : w1.cell? ⟨g, 0, none⟩ = some (.slice A n c) := by rw [hb1.cell hgl]; exact x0
  have hg1 := blk_below HG.out hb1
  have hf1 : w1.frozen? ⟨g, 0, none⟩ = false := frozen_of_row w1 g 0 _ 31 hg1
  clear hb1 x0
  go_wp2_with fail
  go_ret
  rw [HL0.out]
  refine ⟨rfl, ?_, ?_, A2, by rw [← HN.out]; exact HD.out, by rw [← HN.out]; exact one_setCell hg1⟩
  · exact (below_then HBB.out HBB.out.size HB1.out).setCell hBg _
  · exact (KeepBut.of_below HB1.out g none).set_ 0 _
end Go.Proofs.Ytfefpbnhpncmlaa.PtrH
/- Whole aggregates in memory, read and laid as one: general lemmas, no condition. -/
namespace Go.Proofs.Ytfefpbnhpncmlaa.Agg
open Go.RowKit
set_option linter.unusedVariables false
variable {P : Program}

/-- What the walk is kept from. -/
structure Aside1 (p : Prop) : Prop where mk :: (out : p)

theorem setRow_same (w : World) (g : Nat) (cs : Array Value) (t : TypeId) (fr : Nat × Nat) (hg : w.heap[g]? = some (.cells cs t fr)) : w.setRow g cs = w := by
  unfold World.setRow
  refine Eq.trans (b := ({ w with heap := w.heap } : World)) ?_ rfl
  congr 1
  apply Array.ext_getElem?
  intro i
  rw [Array.getElem?_modify]
  by_cases h : g = i
  · subst h
    rw [if_pos rfl, hg]
    rfl
  · rw [if_neg h]

theorem heap_new (w : World) (o : Obj) : (w.alloc o).heap[w.heap.size]? = some o := heap_alloc_last w o

theorem heap_old (w : World) (o : Obj) (i : Nat) (h : i < w.heap.size) : (w.alloc o).heap[i]? = w.heap[i]? := by
  show (w.heap.push o)[i]? = w.heap[i]?
  rw [Array.getElem?_push, if_neg (Nat.ne_of_lt h)]

/-- A block behind more blocks, draws and calls. -/
theorem keep {w w1 : World} {B g : Nat} {o : Obj} (hb : Below B w w1) (hg : w.heap[g]? = some o) (h : g < B) : w1.heap[g]? = some o := by rw [hb.block g h]; exact hg

theorem on {w w1 : World} {g : Nat} {o : Obj} (hg : w.heap[g]? = some o) (hb : Below w.heap.size w w1) : w1.heap[g]? = some o := keep hb hg (Array.getElem?_eq_some_iff.1 hg).1
theorem onAlloc {w : World} {g : Nat} {o : Obj} (hg : w.heap[g]? = some o) (o' : Obj) : (w.alloc o').heap[g]? = some o := (heap_old _ _ _ (Array.getElem?_eq_some_iff.1 hg).1).trans hg
/-- A new block, behind a call. -/
theorem newOn {w w1 : World} (o : Obj) (hb : Below (w.alloc o).heap.size (w.alloc o) w1) : w1.heap[w.heap.size]? = some o := on (heap_new w o) hb

theorem wpList_store_same {ops : Array Oper} {rest : List Oper} {o : Oper} {a : Act} {w : World} {Q : Exit → Act → World → Prop} (hgd : o.guard = none) (ty : TypeId) (x y : Operand) (ho : o.op = .store ty x y)
    (g : Nat) (cs : Array Value) (hx : a.eval x = .pointer (some ⟨g, 0, none⟩)) (hy : a.eval y = .agg cs) (t : TypeId) (hg : w.heap[g]? = some (.cells cs t (0, 0)))
    (hi : (P.info? ty).map (·.size) = some cs.size) (h1 : cs.all (·.oneCell') = true) (h : wpList P ops Q rest (a.put o.dst undef) w) : wpList P ops Q (o :: rest) a w := by
  refine wpList_plain hgd fun K hK => ?_
  have hs := setRow_same w g cs t (0, 0) hg
  refine wp_store_row ty x y ho g cs hx hy t cs hg hi rfl h1 ?_
  rw [hs]
  exact hK _ _ h

theorem gate_on {ops : Array Oper} {rest : List Oper} {o : Oper} {a : Act} {w : World} {Q : Exit → Act → World → Prop} (hw : Region.wanted o (yielded ops a.tmps) = true) (h : wpList P ops Q ({ o with guard := none } :: rest) a w) : wpList P ops Q (o :: rest) a w := by
  have h1 : Region.wanted { o with guard := none } (yielded ops a.tmps) = true := rfl
  unfold wpList at h ⊢
  rw [if_pos h1] at h
  rw [if_pos hw]
  exact h

section
variable {fn : Func} {w : World} {g : Nat} {t ty p q : Nat} {cs : Array Value} {fr : Nat × Nat} {d : TypeDesc} (tmps : Array Value)
theorem res_ct (h : fn.results = #[.cell p ty, .tmp q]) (hp : tmps.getD p undef = .pointer (some ⟨g, 0, none⟩)) (hg : w.heap[g]? = some (.cells cs t fr))
    (hu : P.underlying ty = some d) (hd : (match d with | .struct _ | .array _ _ => true | _ => false) = true) (hi : (P.info? ty).map (·.size) = some cs.size) :
    (results fn tmps).run P w = .ok (.tuple #[.agg cs, tmps.getD q undef]) w := by
  have hp' : tmps[p]?.getD undef = .pointer (some ⟨g, 0, none⟩) := by simpa using hp
  simp [results, h, hp', asAddr, run_loadVar_row w g t ty cs fr d hg hu hd hi]
end
end Go.Proofs.Ytfefpbnhpncmlaa.Agg
/- pointer.Read: a contract. -/
namespace Go.Proofs.Ytfefpbnhpncmlaa.PtrI
open Go.RowKit Go.Proofs.Ytfefpbnhpncmlaa.Agg Go.Proofs.Ytfefpbnhpncmlaa.PtrH Go.Proofs.Ytfefpbnhpncmlaa.B8 Go.Proofs.Ytfefpbnhpncmlaa.CodL Go.Proofs.Ytfefpbnhpncmlaa.CodA Go.Proofs.Ytfefpbnhpncmlaa.CodB Go.Proofs.Ytfefpbnhpncmlaa.CatL Go.Proofs.Ytfefpbnhpncmlaa.PtrA Go.Proofs.Ytfefpbnhpncmlaa.PtrB Go.Proofs.Ytfefpbnhpncmlaa.PtrE Go.Proofs.Ytfefpbnhpncmlaa.PtrF Go.Proofs.Ytfefpbnhpncmlaa.PBaseSigns Go.Proofs.YtfefpbnhpncmlaaW.PrintWords Go.Proofs.YtfefpbnhpncmlaaW.PrintLast Go.Proofs.YtfefpbnhpncmlaaW.PrintMore
set_option linter.unusedVariables false
set_option linter.unusedSimpArgs false

set_option maxRecDepth 100000 in
set_option maxHeartbeats 400000 in
theorem read_short (A : Option Addr) (c n : Nat) (w : World) (hs : n < 52) :
    Calls Try.prog 106 #[.slice A n c] w (fun e w' => e = .returned (.tuple #[.agg (encP zeroP), .int .i64 10]) ∧ Below w.heap.size w w') := by
  have hB := Aside0.mk (((Below.refl w.heap.size w).alloc (Nat.le_refl _) (.cells #[.slice A n c] 31)).alloc (by simp) (.cells Z56 56))
  have g1 := blk_new (w.alloc (.cells #[.slice A n c] 31)) (.cells Z56 56)
  have e0 : (w.alloc (.cells #[.slice A n c] 31)).heap.size = w.heap.size + 1 := by simp
  rw [e0] at g1
  have hn : ((n : Int) < 52) = True := by simp; omega
  go_enter Try.func106, Try.ntmps106
  rw [enc_zero]
  go_wp2_with (refine wpList_store_same rfl 56 _ _ rfl (w.heap.size + 1) Z56 rfl rfl 56 g1 i56 a56 ?_)
  exact bodyPost_ret (res_ct (p := 2) (q := 3) _ rfl rfl g1 Try.underlying56 rfl i56) rfl ⟨rfl, hB.out⟩
end Go.Proofs.Ytfefpbnhpncmlaa.PtrI
/- What 52 bytes tell, part by part. -/
namespace Go.Proofs.Ytfefpbnhpncmlaa.PtrK
open Go.RowKit Go.Proofs.Ytfefpbnhpncmlaa.CodL Go.Proofs.Ytfefpbnhpncmlaa.CatL Go.Proofs.Ytfefpbnhpncmlaa.PtrE Go.Proofs.Ytfefpbnhpncmlaa.PtrF

theorem rawP_parts (l m0 m1 m2 m3 m4 : List Int) (v1 v2 v3 v4 : Int) (hby : Byt l) (h : 52 ≤ l.length) (h0 : m0 = l.take 52) (h1 : m1 = m0.drop 4) (h2 : m2 = m1.drop 4) (h3 : m3 = m2.drop 8) (h4 : m4 = m3.drop 4)
    (e1 : v1 = leL (m0.take 4)) (e2 : v2 = leL (m1.take 4)) (e3 : v3 = leL (m2.take 8)) (e4 : v4 = leL (m3.take 4)) :
    rawP l = ⟨wrap64 v1, wrap64 v3, wrap64 v2, v4 % 4294967296, m4⟩ := by
  subst h0; subst h1; subst h2; subst h3; subst h4
  have b1 := leL_bound (hby.take 4)
  have b2 := leL_bound ((hby.drop 4).take 4)
  have b3 := leL_bound ((hby.drop 8).take 8)
  have b4 := leL_bound ((hby.drop 16).take 4)
  have n1 : (l.take 4).length = 4 := by rw [List.length_take]; omega
  have n2 : ((l.drop 4).take 4).length = 4 := by rw [List.length_take, List.length_drop]; omega
  have n3 : ((l.drop 8).take 8).length = 8 := by rw [List.length_take, List.length_drop]; omega
  have n4 : ((l.drop 16).take 4).length = 4 := by rw [List.length_take, List.length_drop]; omega
  rw [n1] at b1; rw [n2] at b2; rw [n3] at b3; rw [n4] at b4
  simp only [List.drop_take, List.take_take, List.drop_drop] at e1 e2 e3 e4
  simp at e1 e2 e3 e4
  simp only [List.drop_take, List.drop_drop]
  simp
  simp only [rawP, Ptr.mk.injEq, and_true]
  rw [← e1, ← e2, ← e3, ← e4]
  rw [← e1] at b1; rw [← e2] at b2; rw [← e3] at b3; rw [← e4] at b4
  simp only [wrap64, s64]
  refine ⟨?_, ?_, ?_, ?_⟩
  · omega
  · split <;> omega
  · omega
  · omega

/-- The pointer's cells behind the four stores and the copy. -/
theorem cells_laid (w : World) (g : Nat) (x1 x2 x3 : Value) (x4 : Value) (L : List Value) (hL : L.length = 32)
    (h : w.heap[g]? = some (.cells ((((Z56.setIfInBounds 0 x1).setIfInBounds 2 x2).setIfInBounds 1 x3).setIfInBounds 3 x4) 56 (0, 0))) :
    (w.setCells g 4 L).heap[g]? = some (.cells (#[x1, x3, x2, x4] ++ L.toArray) 56 (0, 0)) := by
  obtain ⟨cur, h1, h2, h3⟩ := Go.Proofs.YtfefpbnhpncmlaaW.PrintWords.setCells_row L 4 w _ h (by rw [hL]; simp)
  rw [h1]
  have : cur = #[x1, x3, x2, x4] ++ L.toArray := by
    apply Array.toList_inj.1
    rw [h3, hL]
    simp
  rw [this]
end Go.Proofs.Ytfefpbnhpncmlaa.PtrK
/- pointer.Read: a contract. -/
namespace Go.Proofs.Ytfefpbnhpncmlaa.PtrJ
open Go.RowKit Go.Proofs.Ytfefpbnhpncmlaa.PtrK Go.Proofs.Ytfefpbnhpncmlaa.PtrI Go.Proofs.Ytfefpbnhpncmlaa.Agg Go.Proofs.Ytfefpbnhpncmlaa.PtrH Go.Proofs.Ytfefpbnhpncmlaa.B8 Go.Proofs.Ytfefpbnhpncmlaa.CodL Go.Proofs.Ytfefpbnhpncmlaa.CodA Go.Proofs.Ytfefpbnhpncmlaa.CodB Go.Proofs.Ytfefpbnhpncmlaa.CatL Go.Proofs.Ytfefpbnhpncmlaa.PtrA Go.Proofs.Ytfefpbnhpncmlaa.PtrB Go.Proofs.Ytfefpbnhpncmlaa.PtrE Go.Proofs.Ytfefpbnhpncmlaa.PtrF Go.Proofs.Ytfefpbnhpncmlaa.PBaseSigns Go.Proofs.YtfefpbnhpncmlaaW.PrintWords Go.Proofs.YtfefpbnhpncmlaaW.PrintLast Go.Proofs.YtfefpbnhpncmlaaW.PrintMore
set_option linter.unusedVariables false
set_option linter.unusedSimpArgs false

/-- Where the walk of Read stands: the variable of the bytes, and the pointer's cells. -/
structure RS (B : World) (n c : Nat) (l : List Int) (cs : Array Value) (W : World) : Prop where
  below : Below B.heap.size B W
  var : ∃ A, C8 B A n l ∧ W.heap[B.heap.size]? = some (.cells #[.slice A n c] 31 (0, 0))
  ptr : W.heap[B.heap.size + 1]? = some (.cells cs 56 (0, 0))
  len : n = l.length
  le : n ≤ c
  byt : Byt l
theorem RS.set {B : World} {n c : Nat} {l : List Int} {cs : Array Value} {W : World} (h : RS B n c l cs W) (i : Nat) (v : Value) : RS B n c l (cs.setIfInBounds i v) (W.setCell ⟨B.heap.size + 1, i, none⟩ v) :=
  ⟨h.below.setCell (Nat.le_succ _) _, by obtain ⟨A, h1, h2⟩ := h.var; exact ⟨A, h1, blk_far h2 (by simp) _⟩, heap_setCell_same _ _ _ _ _ _ h.ptr, h.len, h.le, h.byt⟩
theorem RS.step {B : World} {n c : Nat} {l : List Int} {cs : Array Value} {W : World} (h : RS B n c l cs W) (size n1 c1 g : Nat) (i1 v1 : Int) (l1 : List Int) (hg : g = B.heap.size) (hn1 : n1 = n - size) (hc1 : c1 = c - size) (hi : i1 = (size : Int)) (hv : v1 = leL (l.take size)) (hl : l1 = l.drop size) (h1 : 1 ≤ size) (h8 : size ≤ 8) (hs : size ≤ n) (hm : n ≤ 1000000) :
    Calls Try.prog 126 #[.int .i64 i1, .pointer (some ⟨g, 0, none⟩)] W (fun e W' => e = .returned (.int .u64 v1) ∧ RS B n1 c1 l1 cs W') := by
  subst hg; subst hn1; subst hc1; subst hi; subst hv; subst hl
  obtain ⟨A, hr, hg⟩ := h.var
  refine (next_calls B B.heap.size A c n l h.len size W h.below (Nat.le_refl _) hg hr h.byt h.le hm h1 h8 hs).mono ?_
  rintro e W1 ⟨rfl, hb, hk, A2, hr2, hg2⟩
  rw [← h.len] at hr2 hg2
  exact ⟨rfl, hb, ⟨A2, hr2, hg2⟩, hk.blk h.ptr (by omega) (by simp), by rw [List.length_drop, h.len], by have := h.le; omega, h.byt.drop _⟩

theorem a_enc (q : Ptr) : (encP q).all (·.oneCell') = true := by
  rw [Array.all_eq_true]
  intro i hi
  simp only [encP] at hi ⊢
  rw [Array.getElem_append]
  split
  · rename_i h
    simp at h
    have : i = 0 ∨ i = 1 ∨ i = 2 ∨ i = 3 := by omega
    rcases this with rfl | rfl | rfl | rfl <;> rfl
  · simp [Value.oneCell']

set_option maxRecDepth 100000 in
set_option maxHeartbeats 400000 in
theorem read_long (A : Option Addr) (c n : Nat) (l : List Int) (hnl : n = l.length) (w : World) (hr : C8 w A n l) (hby : Byt l) (hc : n ≤ c) (hm : n ≤ 1000000) (hs : 52 ≤ n) :
    Calls Try.prog 106 #[.slice A n c] w (fun e w' => e = .returned (.tuple #[.agg (encP (readP l).1), .int .i64 (readP l).2]) ∧ Below w.heap.size w w') := by
  have HB0 := Aside0.mk (((Below.refl w.heap.size w).alloc (Nat.le_refl _) (.cells #[.slice A 52 c] 31)).alloc (by simp) (.cells Z56 56))
  have hcut := cut8_to A n c 52 hs hc
  have HR := Aside0.mk (B8.C_take hr hs)
  have HX := Aside0.mk (And.intro hnl hby)
  have hn : ((n : Int) < 52) = False := by simp; omega
  have hl52 : (l.take 52).length = 52 := by rw [List.length_take]; omega
  obtain ⟨m0, hm0⟩ : ∃ m0, m0 = l.take 52 := ⟨_, rfl⟩
  obtain ⟨m1, hm1⟩ : ∃ m1, m1 = m0.drop 4 := ⟨_, rfl⟩
  obtain ⟨m2, hm2⟩ : ∃ m2, m2 = m1.drop 4 := ⟨_, rfl⟩
  obtain ⟨m3, hm3⟩ : ∃ m3, m3 = m2.drop 8 := ⟨_, rfl⟩
  obtain ⟨m4, hm4⟩ : ∃ m4, m4 = m3.drop 4 := ⟨_, rfl⟩
  obtain ⟨v1, hv1⟩ : ∃ v, v = leL (m0.take 4) := ⟨_, rfl⟩
  obtain ⟨v2, hv2⟩ : ∃ v, v = leL (m1.take 4) := ⟨_, rfl⟩
  obtain ⟨v3, hv3⟩ : ∃ v, v = leL (m2.take 8) := ⟨_, rfl⟩
  obtain ⟨v4, hv4⟩ : ∃ v, v = leL (m3.take 4) := ⟨_, rfl⟩
  have S0 : RS w 52 c m0 Z56 ((w.alloc (.cells #[.slice A 52 c] 31)).alloc (.cells Z56 56)) := ⟨HB0.out, ⟨A, by rw [hm0]; exact HR.out, blk_alloc (blk_new w _) _⟩, by simpa using blk_new (w.alloc (.cells #[.slice A 52 c] 31)) (.cells Z56 56), by rw [hm0, hl52], by omega, by rw [hm0]; exact HX.out.2.take _⟩
  have S0 := Aside0.mk S0
  have M1 := Aside0.mk (And.intro hm1 hv1)
  have M2 := Aside0.mk (And.intro hm2 hv2)
  have M3 := Aside0.mk (And.intro hm3 hv3)
  have M4 := Aside0.mk (And.intro hm4 hv4)
  have M0 := Aside0.mk hm0
  clear hm0 hm1 hm2 hm3 hm4 hv1 hv2 hv3 hv4 hl52
  have hq : ∃ P : Ending → World → Prop, P = (fun e w' => e = .returned (.tuple #[.agg (encP (readP l).1), .int .i64 (readP l).2]) ∧ Below w.heap.size w w') := ⟨_, rfl⟩
  obtain ⟨P, hP⟩ := hq
  rw [← hP]
  have HP := Aside0.mk hP
  clear hr hby hnl hP
  go_enter Try.func106, Try.ntmps106
  go_wp2_with fail
  refine (S0.out.step 4 48 (c - 4) w.heap.size 4 v1 m1 rfl rfl rfl rfl M1.out.2 M1.out.1 (by decide) (by decide) (by decide) (by decide)).mono ?_
  rintro e u1 ⟨rfl, S1⟩
  have S1 := Aside0.mk S1
  go_wp2_with fail
  refine (S1.out.step 4 44 (c - 4 - 4) w.heap.size 4 v2 m2 rfl rfl rfl rfl M2.out.2 M2.out.1 (by decide) (by decide) (by decide) (by decide)).mono ?_
  rintro e u2 ⟨rfl, S2⟩
  have g2 := S2.ptr
  have y0 : u2.cell? ⟨w.heap.size + 1, 0, none⟩ = some (.int .i64 0) := by rw [cell_of_row u2 _ 0 _ 56 (0, 0) g2]; rfl
  have y2 : u2.cell? ⟨w.heap.size + 1, 2, none⟩ = some (.int .i64 0) := by rw [cell_of_row u2 _ 2 _ 56 (0, 0) g2]; rfl
  have f0 := frozen_of_row u2 _ 0 _ 56 g2
  have f2 := frozen_of_row u2 _ 2 _ 56 g2
  have S2 := Aside0.mk S2
  clear g2
  go_wp2_with fail
  have S2 := Aside0.mk ((S2.out.set 0 (.int .i64 (wrap64 v1))).set 2 (.int .i64 (wrap64 v2)))
  refine (S2.out.step 8 36 (c - 4 - 4 - 8) w.heap.size 8 v3 m3 rfl rfl rfl rfl M3.out.2 M3.out.1 (by decide) (by decide) (by decide) (by decide)).mono ?_
  rintro e u3 ⟨rfl, S3⟩
  have g3 := S3.ptr
  have z1 : u3.cell? ⟨w.heap.size + 1, 1, none⟩ = some (.int .i64 0) := by rw [cell_of_row u3 _ 1 _ 56 (0, 0) g3]; rfl
  have f3 := frozen_of_row u3 _ 1 _ 56 g3
  have S3 := Aside0.mk S3
  clear g3 y0 y2 f0 f2
  go_wp2_with fail
  have S3 := Aside0.mk (S3.out.set 1 (.int .i64 (wrap64 v3)))
  refine (S3.out.step 4 32 (c - 4 - 4 - 8 - 4) w.heap.size 4 v4 m4 rfl rfl rfl rfl M4.out.2 M4.out.1 (by decide) (by decide) (by decide) (by decide)).mono ?_
  rintro e u4 ⟨rfl, S4⟩
  have g4 := S4.ptr
  have q1 : u4.cell? ⟨w.heap.size + 1, 3, none⟩ = some (.int .u32 0) := by rw [cell_of_row u4 _ 3 _ 56 (0, 0) g4]; rfl
  have f4 := frozen_of_row u4 _ 3 _ 56 g4
  obtain ⟨A4, HA4, k4⟩ := S4.var
  have q5 : u4.cell? ⟨w.heap.size, 0, none⟩ = some (.slice A4 32 (c - 4 - 4 - 8 - 4)) := by rw [cell_of_row u4 _ 0 _ 31 (0, 0) k4]; rfl
  obtain ⟨bq, off, rfl, hbq, hx⟩ := C_at 0 (Kd.C_below HA4 S4.below) (by decide)
  have harr : ∀ W : World, (Instr.arrayAt 54 (.slice (some ⟨bq, off, none⟩) 32 (c - 4 - 4 - 8 - 4))).run Try.prog W = .ok (.pointer (some ⟨bq, off, none⟩)) W := fun W => run_arrayAt (P := Try.prog) W 54 5 32 _ 32 _ (by kernel_rfl) (Nat.le_refl _)
  obtain ⟨_, _, e9, hbq2, _⟩ := C_at 0 HA4 (by decide)
  simp only [Option.some.injEq, Addr.mk.injEq] at e9
  obtain ⟨rfl, rfl, _⟩ := e9
  have hml := S4.len
  have hR : u4.rangeAt bq off (m4.map (Value.int .u8)) := by
    intro j v hj
    rw [List.getElem?_map] at hj
    obtain ⟨x, hx1, rfl⟩ := Option.map_eq_some_iff.1 hj
    have hj2 := (List.getElem?_eq_some_iff.1 hx1).1
    have := hx j (by omega)
    rw [this]
    simp [List.getD, hx1]
  have S5 := S4.set 3 (.int .u32 (v4 % 4294967296))
  have hR5 : (u4.setCell ⟨w.heap.size + 1, 3, none⟩ (.int .u32 (v4 % 4294967296))).rangeAt bq off (m4.map (Value.int .u8)) := by
    intro j v hj
    rw [World.cell?_setCell_other _ _ _ _ (by intro h; simp only [Addr.mk.injEq] at h; omega)]
    exact hR j v hj
  have hT5 : (u4.setCell ⟨w.heap.size + 1, 3, none⟩ (.int .u32 (v4 % 4294967296))).there (w.heap.size + 1) 4 (m4.map (Value.int .u8)).toArray.size := by
    intro j hj
    have hj : j < 32 := by simpa [← hml] using hj
    refine ⟨?_, frozen_of_row _ _ _ _ 56 S5.ptr⟩
    rw [cell_of_row _ _ (4 + j) _ 56 (0, 0) S5.ptr]
    simp
    omega
  have i54 : (Try.prog.info? 54).map (·.size) = some (m4.map (Value.int .u8)).length := by rw [List.length_map, ← hml]; kernel_rfl
  have i54' : (Try.prog.info? 54).map (·.size) = some (m4.map (Value.int .u8)).toArray.size := by rw [List.size_toArray]; exact i54
  have a54 : (m4.map (Value.int .u8)).toArray.all (·.oneCell') = true := all_oneCell_toArray (by intro v hv; obtain ⟨x, _, rfl⟩ := List.mem_map.1 hv; rfl)
  have u54 : Try.prog.underlying 54 = some (.array 32 5) := by kernel_rfl
  obtain ⟨q, hq0⟩ : ∃ q, q = rawP l := ⟨_, rfl⟩
  have hqp : q = ⟨wrap64 v1, wrap64 v3, wrap64 v2, v4 % 4294967296, m4⟩ := by
    rw [hq0]
    exact rawP_parts l m0 m1 m2 m3 m4 v1 v2 v3 v4 HX.out.2 (by have := HX.out.1; omega) M0.out M1.out.1 M2.out.1 M3.out.1 M4.out.1 M1.out.2 M2.out.2 M3.out.2 M4.out.2
  have hq32 : q.sha.length = 32 := by rw [hqp]; exact hml.symm
  have hqe : encP q = #[.int .i64 (wrap64 v1), .int .i64 (wrap64 v3), .int .i64 (wrap64 v2), .int .u32 (v4 % 4294967296)] ++ (m4.map (Value.int .u8)).toArray := by rw [hqp]; rfl
  have G5 := cells_laid _ _ _ _ _ _ (m4.map (Value.int .u8)) (by rw [List.length_map, ← hml]) S5.ptr
  rw [← hqe] at G5
  have HQ := Aside0.mk (And.intro hq0 hq32)
  have hsi := si hq32
  clear hqp hqe hq0 hq32
  have BU : Below w.heap.size w ((u4.setCell ⟨w.heap.size + 1, 3, none⟩ (.int .u32 (v4 % 4294967296))).setCells (w.heap.size + 1) 4 (m4.map (Value.int .u8))) := by
    obtain ⟨s1, s2, s3, s4⟩ := setCells_same (w.heap.size + 1) (m4.map (Value.int .u8)) 4 (u4.setCell ⟨w.heap.size + 1, 3, none⟩ (.int .u32 (v4 % 4294967296)))
    exact ⟨s1.trans S5.below.os, s2.trans S5.below.tape, s3.trans S5.below.output, by rw [s4]; exact S5.below.size, fun k hk => (setCells_far _ 4 k (by omega)).trans (S5.below.block k hk)⟩
  have HS5 := Aside0.mk (And.intro S5 (And.intro hR5 hT5))
  have HI := Aside0.mk (And.intro i54 (And.intro i54' a54))
  clear S5 hR hR5 hT5 i54 i54' a54 hx hbq hbq2 HA4 hml
  have S4 := Aside0.mk S4
  clear g4 z1 f3 k4 S1 S2 S3
  obtain ⟨L4, hL4⟩ : ∃ L, L = m4.map (Value.int .u8) := ⟨_, rfl⟩
  rw [← hL4] at HS5 HI G5 BU
  have BU := Aside0.mk BU
  have G5 := Aside0.mk G5
  have HL4 := Aside0.mk hL4
  clear hL4
  go_wp2_with (first | (refine wpList_load_mid rfl 54 _ rfl bq off rfl L4 _ HS5.out.2.1 u54 rfl HI.out.1 ?_) | (refine wpList_store_mid rfl 54 _ _ rfl (w.heap.size + 1) 4 L4.toArray rfl rfl HS5.out.2.2 HI.out.2.1 HI.out.2.2 ?_) | (refine wpList_load_row rfl 56 _ rfl _ rfl 56 (encP q) (0, 0) _ G5.out Try.underlying56 rfl hsi ?_))
  refine (none_calls q HQ.out.2 _).mono ?_
  rintro e u6 ⟨rfl, hb6⟩
  have G6 := Aside0.mk (blk_below G5.out hb6)
  have B6 := Aside0.mk (below_then BU.out BU.out.size hb6)
  clear hb6 BU G5 HS5 q1 f4 q5 harr
  have hpc := Aside0.mk (pc q HQ.out.2)
  have hae := a_enc q
  by_cases hz : q = zeroP
  · rw [decide_eq_true hz]
    go_wp2_with (first | (refine wpList_load_row rfl 56 _ rfl _ rfl 56 (encP q) (0, 0) _ G6.out Try.underlying56 rfl hsi ?_) | (refine wpList_store_same rfl 56 _ _ rfl (w.heap.size + 1) (encP q) rfl rfl 56 G6.out hsi hae ?_))
    refine bodyPost_ret (res_ct (p := 2) (q := 3) _ rfl rfl G6.out Try.underlying56 rfl hsi) rfl ?_
    rw [HP.out]
    refine ⟨?_, B6.out⟩
    have h : readP l = (q, 0) := by
      unfold readP
      rw [if_neg (by have := HX.out.1; omega), ← HQ.out.1, if_neg (by simp [hz])]
    rw [h]
    rfl
  · rw [decide_eq_false hz]
    go_wp2_with (refine gate_on (by rfl) ?_; dsimp only; refine wpList_load_row rfl 56 _ rfl _ rfl 56 (encP q) (0, 0) _ G6.out Try.underlying56 rfl hsi ?_)
    refine (right_calls (encP q) q hpc.out _).mono ?_
    rintro e u7 ⟨rfl, hb7⟩
    have G7 := Aside0.mk (blk_below G6.out hb7)
    have B7 := Aside0.mk (below_then B6.out B6.out.size hb7)
    clear hb7 G6 B6
    by_cases hrt : Right q
    · rw [rightB_yes hrt]
      go_wp2_with (first | (refine wpList_load_row rfl 56 _ rfl _ rfl 56 (encP q) (0, 0) _ G7.out Try.underlying56 rfl hsi ?_) | (refine wpList_store_same rfl 56 _ _ rfl (w.heap.size + 1) (encP q) rfl rfl 56 G7.out hsi hae ?_))
      refine bodyPost_ret (res_ct (p := 2) (q := 3) _ rfl rfl G7.out Try.underlying56 rfl hsi) rfl ?_
      rw [HP.out]
      refine ⟨?_, B7.out⟩
      have h : readP l = (q, 0) := by
        unfold readP
        rw [if_neg (by have := HX.out.1; omega), ← HQ.out.1, if_neg (by simp [hrt])]
      rw [h]
      rfl
    · rw [rightB_no hrt]
      have hesz : (encP q).size = Z56.size := by rw [encP_size HQ.out.2]; rfl
      go_wp2_with (refine wpList_store_row rfl 56 _ _ rfl (w.heap.size + 1) Z56 rfl rfl 56 (encP q) G7.out i56 hesz a56 ?_)
      have G8 := setRow_heap u7 (w.heap.size + 1) (encP q) Z56 56 _ G7.out
      refine bodyPost_ret (res_ct (p := 2) (q := 3) _ rfl rfl G8 Try.underlying56 rfl i56) rfl ?_
      rw [HP.out]
      refine ⟨?_, below_setRow B7.out (Nat.le_succ _) _⟩
      have h : readP l = (zeroP, 11) := by
        unfold readP
        rw [if_neg (by have := HX.out.1; omega), ← HQ.out.1, if_pos ⟨hz, hrt⟩]
      rw [h]
      rw [← enc_zero]
      rfl
end Go.Proofs.Ytfefpbnhpncmlaa.PtrJ
/- pointer.Read: a contract. -/
namespace Go.Proofs.Ytfefpbnhpncmlaa.PtrL
open Go.RowKit Go.Proofs.Ytfefpbnhpncmlaa.PtrI Go.Proofs.Ytfefpbnhpncmlaa.PtrJ Go.Proofs.Ytfefpbnhpncmlaa.Agg Go.Proofs.Ytfefpbnhpncmlaa.PtrH Go.Proofs.Ytfefpbnhpncmlaa.B8 Go.Proofs.Ytfefpbnhpncmlaa.CodL Go.Proofs.Ytfefpbnhpncmlaa.CodA Go.Proofs.Ytfefpbnhpncmlaa.CodB Go.Proofs.Ytfefpbnhpncmlaa.CatL Go.Proofs.Ytfefpbnhpncmlaa.PtrA Go.Proofs.Ytfefpbnhpncmlaa.PtrB Go.Proofs.Ytfefpbnhpncmlaa.PtrE Go.Proofs.Ytfefpbnhpncmlaa.PtrF Go.Proofs.Ytfefpbnhpncmlaa.PBaseSigns Go.Proofs.YtfefpbnhpncmlaaW.PrintWords Go.Proofs.YtfefpbnhpncmlaaW.PrintLast Go.Proofs.YtfefpbnhpncmlaaW.PrintMore
set_option linter.unusedVariables false
set_option linter.unusedSimpArgs false

/-- What a pointer, and a fault's number, are told. -/
def TellsP (w : World) (q : Ptr × Int) (e : Ending) (w' : World) : Prop := e = .returned (.tuple #[.agg (encP q.1), .int .i64 q.2]) ∧ Below w.heap.size w w'
theorem read_calls (A : Option Addr) (c n : Nat) (l : List Int) (hnl : n = l.length) (w : World) (hr : C8 w A n l) (hby : Byt l) (hc : n ≤ c) (hm : n ≤ 1000000) :
    Calls Try.prog 106 #[.slice A n c] w (TellsP w (readP l)) := by
  by_cases hs : n < 52
  · refine (read_short A c n w hs).mono ?_
    rintro e w1 ⟨rfl, hb⟩
    have h : readP l = (zeroP, 10) := by
      unfold readP
      rw [if_pos (by omega)]
    rw [h]
    exact ⟨rfl, hb⟩
  · exact read_long A c n l hnl w hr hby hc hm (by omega)
end Go.Proofs.Ytfefpbnhpncmlaa.PtrL
