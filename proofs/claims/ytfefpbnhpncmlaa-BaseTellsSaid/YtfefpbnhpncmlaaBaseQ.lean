import Derived.Test.YtfefpbnhpncmlaaB8
namespace Go.Proofs.Ytfefpbnhpncmlaa.BaseQ
open Go.Proofs.Ytfefpbnhpncmlaa.B8 Go.RowKit Go.Proofs.Ytfefpbnhpncmlaa.PBaseSigns Go.Proofs.YtfefpbnhpncmlaaW.PrintWords Go.Proofs.YtfefpbnhpncmlaaW.PrintLast Go.Proofs.YtfefpbnhpncmlaaW.PrintMore
set_option linter.unusedVariables false

theorem wraps_i64 (n : Int) (h₀ : 0 ≤ n) (h₁ : n < 2 ^ 63) : IntKind.i64.wrap n = n := by rw [IntKind.wrap_i64]; omega
theorem i64_or_join (i : Nat) (x y : Int) (hx₀ : 0 ≤ x) (hx : x % 2 ^ i = 0) (hx₁ : x < 2 ^ 63) (hy₀ : 0 ≤ y) (hy : y < 2 ^ i) (hy₁ : y < 2 ^ 63) : bits .or .i64 x y = x + y :=
  bits_join .i64 63 (by decide) wraps_i64 i x y hx₀ hx hx₁ hy₀ hy hy₁
theorem i64_or_comm (x y : Int) (hx : 0 ≤ x) (hx₁ : x < 2 ^ 63) (hy : 0 ≤ y) (hy₁ : y < 2 ^ 63) : bits .or .i64 x y = bits .or .i64 y x := by
  obtain ⟨a, rfl⟩ := Int.eq_ofNat_of_zero_le hx
  obtain ⟨b, rfl⟩ := Int.eq_ofNat_of_zero_le hy
  have ha : a < 2 ^ 63 := by exact_mod_cast hx₁
  have hb : b < 2 ^ 63 := by exact_mod_cast hy₁
  rw [(bits_nat .i64 63 (by decide) wraps_i64 a b ha hb).2, (bits_nat .i64 63 (by decide) wraps_i64 b a hb ha).2, Nat.or_comm]
theorem i64_or_lt (i : Nat) (x y : Int) (hx₀ : 0 ≤ x) (hx : x % 2 ^ i = 0) (hx₁ : x < 2 ^ 63) (hy₀ : 0 ≤ y) (hy : y < 2 ^ i) (hy₁ : y < 2 ^ 63) : bits .or .i64 y x = x + y := by
  rw [i64_or_comm y x hy₀ hy₁ hx₀ hx₁]
  exact i64_or_join i x y hx₀ hx hx₁ hy₀ hy hy₁
theorem i64_or_zero (x : Int) (hx₀ : 0 ≤ x) (hx₁ : x < 2 ^ 63) : bits .or .i64 0 x = x := by
  have := i64_or_lt 0 x 0 hx₀ (by simp) hx₁ (by decide) (by decide) (by decide)
  simpa using this

/-- A group's number. -/
def num : List Int → Int
  | [a] => a * 65536
  | [a, b] => a * 65536 + b * 256
  | [a, b, c] => a * 65536 + b * 256 + c
  | _ => 0
/-- Its four signs. -/
def sg (n : Int) : Int := bt (⟨#[65, 66, 67, 68, 69, 70, 71, 72, 73, 74, 75, 76, 77, 78, 79, 80, 81, 82, 83, 84, 85, 86, 87, 88, 89, 90, 97, 98, 99, 100, 101, 102, 103, 104, 105, 106, 107, 108, 109, 110, 111, 112, 113, 114, 115, 116, 117, 118, 119, 120, 121, 122, 48, 49, 50, 51, 52, 53, 54, 55, 56, 57, 43, 47]⟩ : ByteArray) n
def quadL (l : List Int) : List Int := [sg (num l / 262144 % 64), sg (num l / 4096 % 64), if 2 ≤ l.length then sg (num l / 64 % 64) else 61, if 3 ≤ l.length then sg (num l % 64) else 61]

theorem sign_f (n : Int) (h0 : 0 ≤ n) (h1 : n ≤ 63) : base_Sign.f n = some (sg n) := by
  unfold base_Sign.f sg
  rw [if_neg (by omega), if_neg (by omega), if_pos h0, if_pos (by omega)]

theorem sign_calls (n : Int) (h0 : 0 ≤ n) (h1 : n ≤ 63) (w : World) : Calls Try.prog 14 #[.int .i64 n] w fun e w' => e = .returned (.int .u8 (sg n)) ∧ w = w' := by
  have c2b0 : decide (n < 0) = false := by simp; omega
  have c3b0 : decide (63 < n) = false := by simp; omega
  have p6 : 0 ≤ n := h0
  have q6 : n < (64 : Int) := by omega
  have hx6 := bt_at (⟨#[65, 66, 67, 68, 69, 70, 71, 72, 73, 74, 75, 76, 77, 78, 79, 80, 81, 82, 83, 84, 85, 86, 87, 88, 89, 90, 97, 98, 99, 100, 101, 102, 103, 104, 105, 106, 107, 108, 109, 110, 111, 112, 113, 114, 115, 116, 117, 118, 119, 120, 121, 122, 48, 49, 50, 51, 52, 53, 54, 55, 56, 57, 43, 47]⟩ : ByteArray) n
  replace p6 := eq_true p6
  replace q6 := eq_true q6
  go_enter Try.func14, Try.ntmps14
  go_wp2
  go_ret
  exact ⟨by unfold sg; rfl, rfl⟩

theorem and63 (x : Int) (h0 : 0 ≤ x) (h1 : x < 2 ^ 63) : bits .and .i64 x 63 = x % 64 := bits_mask .i64 63 (by decide) wraps_i64 6 (by decide) x h0 h1

theorem num3 (a b c : Int) (ha : 0 ≤ a) (ha' : a < 256) (hb : 0 ≤ b) (hb' : b < 256) (hc : 0 ≤ c) (hc' : c < 256) : 0 ≤ num [a, b, c] ∧ num [a, b, c] < 16777216 := by
  simp [num]
  omega
theorem num2 (a b : Int) (ha : 0 ≤ a) (ha' : a < 256) (hb : 0 ≤ b) (hb' : b < 256) : 0 ≤ num [a, b] ∧ num [a, b] < 16777216 := by
  simp [num]
  omega
theorem num1 (a : Int) (ha : 0 ≤ a) (ha' : a < 256) : 0 ≤ num [a] ∧ num [a] < 16777216 := by
  simp [num]
  omega

set_option maxHeartbeats 1000000 in
theorem quad1 (A : Option Addr) (k : Nat) (a : Int) (w : World) (hr : Kd.C (Kd.int .u8) w A 1 [a]) (ha : 0 ≤ a) (ha' : a < 256) :
    Calls Try.prog 56 #[.slice A 1 k] w fun e w' => e = .returned (.agg ((quadL [a]).map (Value.int .u8)).toArray) ∧ Below w.heap.size w w' := by
  obtain ⟨bk, off, rfl, hB, hx⟩ := C_at 0 hr (by omega)
  have x0 := hx 0 (by omega)
  clear hx
  simp at x0
  have hn : bits .or .i64 0 (a * 65536) = num [a] := by
    rw [i64_or_zero (a * 65536) (by omega) (by omega)]
    simp [num]
  have HN := Aside0.mk hn
  clear hn
  have hnum := num1 a ha ha'
  have s0 := fun W => sign_calls (num [a] / 262144 % 64) (by omega) (by omega) W
  have s1 := fun W => sign_calls (num [a] / 4096 % 64) (by omega) (by omega) W
  go_enter Try.func56, Try.ntmps56
  go_wp2
  refine wp_loop_rounds 5 ?_
  rw [rounds_succ]
  go_wp2_with fail
  rw [HN.out, and63 _ (by omega) (by omega)]
  refine (s0 _).mono ?_
  rintro e w1 ⟨rfl, rfl⟩
  go_wp2_with fail
  rw [rounds_succ]
  go_wp2_with fail
  rw [and63 _ (by omega) (by omega)]
  refine (s1 _).mono ?_
  rintro e w1 ⟨rfl, rfl⟩
  go_wp2_with fail
  rw [rounds_succ]
  go_wp2_with fail
  rw [rounds_succ]
  go_wp2_with fail
  rw [rounds_succ]
  go_wp2
  exact bodyPost_ret (v := .agg ((quadL [a]).map (Value.int .u8)).toArray) (by simp [results, Try.results56, go_sem, quadL]) rfl ⟨rfl, below_alloc (below_alloc (Below.refl _ _) _) _⟩

set_option maxHeartbeats 1000000 in
theorem quad2 (A : Option Addr) (k : Nat) (a b : Int) (w : World) (hr : Kd.C (Kd.int .u8) w A 2 [a, b]) (ha : 0 ≤ a) (ha' : a < 256) (hb : 0 ≤ b) (hb' : b < 256) :
    Calls Try.prog 56 #[.slice A 2 k] w fun e w' => e = .returned (.agg ((quadL [a, b]).map (Value.int .u8)).toArray) ∧ Below w.heap.size w w' := by
  obtain ⟨bk, off, rfl, hB, hx⟩ := C_at 0 hr (by omega)
  have x0 := hx 0 (by omega)
  have x1 := hx 1 (by omega)
  clear hx
  simp at x0 x1
  have hn : bits .or .i64 (bits .or .i64 0 (b * 256)) (a * 65536) = num [a, b] := by
    rw [i64_or_zero (b * 256) (by omega) (by omega), i64_or_lt 16 (a * 65536) (b * 256) (by omega) (by omega) (by omega) (by omega) (by omega) (by omega)]
    simp [num]
  have HN := Aside0.mk hn
  clear hn
  have hnum := num2 a b ha ha' hb hb'
  have s0 := fun W => sign_calls (num [a, b] / 262144 % 64) (by omega) (by omega) W
  have s1 := fun W => sign_calls (num [a, b] / 4096 % 64) (by omega) (by omega) W
  have s2 := fun W => sign_calls (num [a, b] / 64 % 64) (by omega) (by omega) W
  go_enter Try.func56, Try.ntmps56
  go_wp2
  refine wp_loop_rounds 5 ?_
  rw [rounds_succ]
  go_wp2_with fail
  rw [HN.out, and63 _ (by omega) (by omega)]
  refine (s0 _).mono ?_
  rintro e w1 ⟨rfl, rfl⟩
  go_wp2_with fail
  rw [rounds_succ]
  go_wp2_with fail
  rw [and63 _ (by omega) (by omega)]
  refine (s1 _).mono ?_
  rintro e w1 ⟨rfl, rfl⟩
  go_wp2_with fail
  rw [rounds_succ]
  go_wp2_with fail
  rw [and63 _ (by omega) (by omega)]
  refine (s2 _).mono ?_
  rintro e w1 ⟨rfl, rfl⟩
  go_wp2_with fail
  rw [rounds_succ]
  go_wp2_with fail
  rw [rounds_succ]
  go_wp2
  exact bodyPost_ret (v := .agg ((quadL [a, b]).map (Value.int .u8)).toArray) (by simp [results, Try.results56, go_sem, quadL]) rfl ⟨rfl, below_alloc (below_alloc (Below.refl _ _) _) _⟩

set_option maxHeartbeats 1000000 in
theorem quad3 (A : Option Addr) (k : Nat) (a b c : Int) (w : World) (hr : Kd.C (Kd.int .u8) w A 3 [a, b, c]) (ha : 0 ≤ a) (ha' : a < 256) (hb : 0 ≤ b) (hb' : b < 256) (hc : 0 ≤ c) (hc' : c < 256) :
    Calls Try.prog 56 #[.slice A 3 k] w fun e w' => e = .returned (.agg ((quadL [a, b, c]).map (Value.int .u8)).toArray) ∧ Below w.heap.size w w' := by
  obtain ⟨bk, off, rfl, hB, hx⟩ := C_at 0 hr (by omega)
  have x0 := hx 0 (by omega)
  have x1 := hx 1 (by omega)
  have x2 := hx 2 (by omega)
  clear hx
  simp at x0 x1 x2
  have hn : bits .or .i64 (bits .or .i64 (bits .or .i64 0 (c)) (b * 256)) (a * 65536) = num [a, b, c] := by
    rw [i64_or_zero c (by omega) (by omega), i64_or_lt 8 (b * 256) c (by omega) (by omega) (by omega) (by omega) (by omega) (by omega), i64_or_lt 16 (a * 65536) (b * 256 + c) (by omega) (by omega) (by omega) (by omega) (by omega) (by omega)]
    simp [num]
    omega
  have HN := Aside0.mk hn
  clear hn
  have hnum := num3 a b c ha ha' hb hb' hc hc'
  have s0 := fun W => sign_calls (num [a, b, c] / 262144 % 64) (by omega) (by omega) W
  have s1 := fun W => sign_calls (num [a, b, c] / 4096 % 64) (by omega) (by omega) W
  have s2 := fun W => sign_calls (num [a, b, c] / 64 % 64) (by omega) (by omega) W
  have s3 := fun W => sign_calls (num [a, b, c] % 64) (by omega) (by omega) W
  go_enter Try.func56, Try.ntmps56
  go_wp2
  refine wp_loop_rounds 5 ?_
  rw [rounds_succ]
  go_wp2_with fail
  rw [HN.out, and63 _ (by omega) (by omega)]
  refine (s0 _).mono ?_
  rintro e w1 ⟨rfl, rfl⟩
  go_wp2_with fail
  rw [rounds_succ]
  go_wp2_with fail
  rw [and63 _ (by omega) (by omega)]
  refine (s1 _).mono ?_
  rintro e w1 ⟨rfl, rfl⟩
  go_wp2_with fail
  rw [rounds_succ]
  go_wp2_with fail
  rw [and63 _ (by omega) (by omega)]
  refine (s2 _).mono ?_
  rintro e w1 ⟨rfl, rfl⟩
  go_wp2_with fail
  rw [rounds_succ]
  go_wp2_with fail
  rw [and63 _ (by omega) (by omega)]
  refine (s3 _).mono ?_
  rintro e w1 ⟨rfl, rfl⟩
  go_wp2_with fail
  rw [rounds_succ]
  go_wp2
  exact bodyPost_ret (v := .agg ((quadL [a, b, c]).map (Value.int .u8)).toArray) (by simp [results, Try.results56, go_sem, quadL]) rfl ⟨rfl, below_alloc (below_alloc (Below.refl _ _) _) _⟩

def qd (l : List Int) (i : Nat) : Int := (quadL l).getD i 0
theorem quad_calls (A : Option Addr) (k g : Nat) (l : List Int) (w : World) (hr : C8 w A g l) (h0 : 1 ≤ g) (h1 : g ≤ 3) (hb : Bytes l) :
    Calls Try.prog 56 #[.slice A g k] w fun e w' => e = .returned (.agg #[.int .u8 (qd l 0), .int .u8 (qd l 1), .int .u8 (qd l 2), .int .u8 (qd l 3)]) ∧ Below w.heap.size w w' := by
  have hl := hr.1
  match l, hl with
  | [], hl => simp at hl; omega
  | [a], hl =>
    obtain rfl : g = 1 := by simpa using hl.symm
    have ha := hb a (by simp)
    exact quad1 A k a w hr ha.1 ha.2
  | [a, b], hl =>
    obtain rfl : g = 2 := by simpa using hl.symm
    have ha := hb a (by simp)
    have hb' := hb b (by simp)
    exact quad2 A k a b w hr ha.1 ha.2 hb'.1 hb'.2
  | [a, b, c], hl =>
    obtain rfl : g = 3 := by simpa using hl.symm
    have ha := hb a (by simp)
    have hb' := hb b (by simp)
    have hc := hb c (by simp)
    exact quad3 A k a b c w hr ha.1 ha.2 hb'.1 hb'.2 hc.1 hc.2
  | a :: b :: c :: d :: r, hl => simp at hl; omega
end Go.Proofs.Ytfefpbnhpncmlaa.BaseQ
