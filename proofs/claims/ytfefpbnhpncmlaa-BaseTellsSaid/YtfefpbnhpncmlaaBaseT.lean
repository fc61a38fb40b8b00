import Derived.Test.YtfefpbnhpncmlaaBaseV
namespace Go.Proofs.Ytfefpbnhpncmlaa.BaseT
open Go.Proofs.Ytfefpbnhpncmlaa.B8 Go.Proofs.Ytfefpbnhpncmlaa.BaseQ Go.Proofs.Ytfefpbnhpncmlaa.BaseV Go.RowKit Go.Proofs.YtfefpbnhpncmlaaW.PrintWords Go.Proofs.YtfefpbnhpncmlaaW.PrintLast Go.Proofs.YtfefpbnhpncmlaaW.PrintMore
attribute [local go_sem] max2_int min2_int max_two min_two
set_option linter.unusedVariables false

theorem byte_bd (x : UInt8) : 0 ≤ (x.toNat : Int) ∧ (x.toNat : Int) < 256 := by
  have := x.toNat_lt
  omega

theorem or6 (x y : Int) (hx : 0 ≤ x) (hx1 : x < 16777216) (hy : 0 ≤ y) (hy1 : y < 64) : bits .or .i64 (x * 64) y = x * 64 + y :=
  i64_or_join 6 (x * 64) y (by omega) (by omega) (by omega) hy (by simpa using hy1) (by omega)

theorem tA1 (s : ByteArray) (hs : 3 < s.size) (c1 c2 c3 : Nat) (q0 : (s[0]'(by omega)).toNat = 61) (q1 : (s[1]'(by omega)).toNat = c1) (q2 : (s[2]'(by omega)).toNat = c2) (q3 : (s[3]'(by omega)).toNat = c3) (y0 : Int) (w : World)
    (v0 : ∀ W, Calls Try.prog 16 #[.int .u8 61] W fun e w' => e = .returned (.int .i64 y0) ∧ W = w')
    (h0 : y0 < 0) :
    Calls Try.prog 55 #[.string s] w fun e w' => e = .returned (.tuple #[.slice none 0 0, .bool false]) ∧ Below w.heap.size w w' := by
  have z0 : (0 : Int) < (s.size : Int) := by omega
  have z1 : (1 : Int) < (s.size : Int) := by omega
  have z2 : (2 : Int) < (s.size : Int) := by omega
  have z3 : (3 : Int) < (s.size : Int) := by omega
  go_enter Try.func55, Try.ntmps55
  go_wp2
  refine wp_loop_rounds 5 ?_
  rw [rounds_succ]
  go_wp2_with fail
  refine (v0 _).mono ?_
  rintro e w1 ⟨rfl, rfl⟩
  go_wp2_with fail
  go_ret2
  exact ⟨rfl, by repeat (first | exact Below.refl _ _ | apply below_alloc)⟩

theorem tA2 (s : ByteArray) (hs : 3 < s.size) (c0 c1 c2 c3 : Nat) (q0 : (s[0]'(by omega)).toNat = c0) (q1 : (s[1]'(by omega)).toNat = c1) (q2 : (s[2]'(by omega)).toNat = c2) (q3 : (s[3]'(by omega)).toNat = c3) (y0 : Int) (w : World)
    (v0 : ∀ W, Calls Try.prog 16 #[.int .u8 c0] W fun e w' => e = .returned (.int .i64 y0) ∧ W = w')
    (h0 : y0 < 0) (p0 : ((c0 : Int) == 61) = false) :
    Calls Try.prog 55 #[.string s] w fun e w' => e = .returned (.tuple #[.slice none 0 0, .bool false]) ∧ Below w.heap.size w w' := by
  have z0 : (0 : Int) < (s.size : Int) := by omega
  have z1 : (1 : Int) < (s.size : Int) := by omega
  have z2 : (2 : Int) < (s.size : Int) := by omega
  have z3 : (3 : Int) < (s.size : Int) := by omega
  go_enter Try.func55, Try.ntmps55
  go_wp2
  refine wp_loop_rounds 5 ?_
  rw [rounds_succ]
  go_wp2_with fail
  refine (v0 _).mono ?_
  rintro e w1 ⟨rfl, rfl⟩
  go_wp2_with fail
  go_ret2
  exact ⟨rfl, by repeat (first | exact Below.refl _ _ | apply below_alloc)⟩

theorem tB1 (s : ByteArray) (hs : 3 < s.size) (c0 c2 c3 : Nat) (q0 : (s[0]'(by omega)).toNat = c0) (q1 : (s[1]'(by omega)).toNat = 61) (q2 : (s[2]'(by omega)).toNat = c2) (q3 : (s[3]'(by omega)).toNat = c3) (y0 y1 : Int) (w : World)
    (v0 : ∀ W, Calls Try.prog 16 #[.int .u8 c0] W fun e w' => e = .returned (.int .i64 y0) ∧ W = w')
    (v1 : ∀ W, Calls Try.prog 16 #[.int .u8 61] W fun e w' => e = .returned (.int .i64 y1) ∧ W = w')
    (h0 : 0 ≤ y0) (h0' : y0 < 64) (h1 : y1 < 0) (p0 : ((c0 : Int) == 61) = false) :
    Calls Try.prog 55 #[.string s] w fun e w' => e = .returned (.tuple #[.slice none 0 0, .bool false]) ∧ Below w.heap.size w w' := by
  have z0 : (0 : Int) < (s.size : Int) := by omega
  have z1 : (1 : Int) < (s.size : Int) := by omega
  have z2 : (2 : Int) < (s.size : Int) := by omega
  have z3 : (3 : Int) < (s.size : Int) := by omega
  have o0 : bits .or .i64 0 y0 = y0 := i64_or_zero y0 h0 (by omega)
  go_enter Try.func55, Try.ntmps55
  go_wp2
  refine wp_loop_rounds 5 ?_
  rw [rounds_succ]
  go_wp2_with fail
  refine (v0 _).mono ?_
  rintro e w1 ⟨rfl, rfl⟩
  go_wp2_with fail
  rw [rounds_succ]
  go_wp2_with fail
  refine (v1 _).mono ?_
  rintro e w1 ⟨rfl, rfl⟩
  go_wp2_with fail
  go_ret2
  exact ⟨rfl, by repeat (first | exact Below.refl _ _ | apply below_alloc)⟩

theorem tB2 (s : ByteArray) (hs : 3 < s.size) (c0 c1 c2 c3 : Nat) (q0 : (s[0]'(by omega)).toNat = c0) (q1 : (s[1]'(by omega)).toNat = c1) (q2 : (s[2]'(by omega)).toNat = c2) (q3 : (s[3]'(by omega)).toNat = c3) (y0 y1 : Int) (w : World)
    (v0 : ∀ W, Calls Try.prog 16 #[.int .u8 c0] W fun e w' => e = .returned (.int .i64 y0) ∧ W = w')
    (v1 : ∀ W, Calls Try.prog 16 #[.int .u8 c1] W fun e w' => e = .returned (.int .i64 y1) ∧ W = w')
    (h0 : 0 ≤ y0) (h0' : y0 < 64) (h1 : y1 < 0) (p0 : ((c0 : Int) == 61) = false) (p1 : ((c1 : Int) == 61) = false) :
    Calls Try.prog 55 #[.string s] w fun e w' => e = .returned (.tuple #[.slice none 0 0, .bool false]) ∧ Below w.heap.size w w' := by
  have z0 : (0 : Int) < (s.size : Int) := by omega
  have z1 : (1 : Int) < (s.size : Int) := by omega
  have z2 : (2 : Int) < (s.size : Int) := by omega
  have z3 : (3 : Int) < (s.size : Int) := by omega
  have o0 : bits .or .i64 0 y0 = y0 := i64_or_zero y0 h0 (by omega)
  go_enter Try.func55, Try.ntmps55
  go_wp2
  refine wp_loop_rounds 5 ?_
  rw [rounds_succ]
  go_wp2_with fail
  refine (v0 _).mono ?_
  rintro e w1 ⟨rfl, rfl⟩
  go_wp2_with fail
  rw [rounds_succ]
  go_wp2_with fail
  refine (v1 _).mono ?_
  rintro e w1 ⟨rfl, rfl⟩
  go_wp2_with fail
  go_ret2
  exact ⟨rfl, by repeat (first | exact Below.refl _ _ | apply below_alloc)⟩

theorem tP2 (s : ByteArray) (hs : 3 < s.size) (c0 c1 c3 : Nat) (q0 : (s[0]'(by omega)).toNat = c0) (q1 : (s[1]'(by omega)).toNat = c1) (q2 : (s[2]'(by omega)).toNat = 61) (q3 : (s[3]'(by omega)).toNat = c3) (y0 y1 y2 : Int) (w : World)
    (v0 : ∀ W, Calls Try.prog 16 #[.int .u8 c0] W fun e w' => e = .returned (.int .i64 y0) ∧ W = w')
    (v1 : ∀ W, Calls Try.prog 16 #[.int .u8 c1] W fun e w' => e = .returned (.int .i64 y1) ∧ W = w')
    (v2 : ∀ W, Calls Try.prog 16 #[.int .u8 61] W fun e w' => e = .returned (.int .i64 y2) ∧ W = w')
    (h0 : 0 ≤ y0) (h0' : y0 < 64) (h1 : 0 ≤ y1) (h1' : y1 < 64) (h2 : y2 < 0) (p0 : ((c0 : Int) == 61) = false) (p1 : ((c1 : Int) == 61) = false) (p3 : ((c3 : Int) == 61) = false) :
    Calls Try.prog 55 #[.string s] w fun e w' => e = .returned (.tuple #[.slice none 0 0, .bool false]) ∧ Below w.heap.size w w' := by
  have z0 : (0 : Int) < (s.size : Int) := by omega
  have z1 : (1 : Int) < (s.size : Int) := by omega
  have z2 : (2 : Int) < (s.size : Int) := by omega
  have z3 : (3 : Int) < (s.size : Int) := by omega
  have o1 := Aside0.mk (or6 (y0) y1 (by omega) (by omega) h1 h1')
  have o0 : bits .or .i64 0 y0 = y0 := i64_or_zero y0 h0 (by omega)
  go_enter Try.func55, Try.ntmps55
  go_wp2
  refine wp_loop_rounds 5 ?_
  rw [rounds_succ]
  go_wp2_with fail
  refine (v0 _).mono ?_
  rintro e w1 ⟨rfl, rfl⟩
  go_wp2_with fail
  rw [rounds_succ]
  go_wp2_with fail
  refine (v1 _).mono ?_
  rintro e w1 ⟨rfl, rfl⟩
  go_wp2_with fail
  rw [o1.out, rounds_succ]
  go_wp2_with fail
  refine (v2 _).mono ?_
  rintro e w1 ⟨rfl, rfl⟩
  go_wp2_with fail
  go_ret2
  exact ⟨rfl, by repeat (first | exact Below.refl _ _ | apply below_alloc)⟩

theorem tP4 (s : ByteArray) (hs : 3 < s.size) (c0 c1 c2 c3 : Nat) (q0 : (s[0]'(by omega)).toNat = c0) (q1 : (s[1]'(by omega)).toNat = c1) (q2 : (s[2]'(by omega)).toNat = c2) (q3 : (s[3]'(by omega)).toNat = c3) (y0 y1 y2 : Int) (w : World)
    (v0 : ∀ W, Calls Try.prog 16 #[.int .u8 c0] W fun e w' => e = .returned (.int .i64 y0) ∧ W = w')
    (v1 : ∀ W, Calls Try.prog 16 #[.int .u8 c1] W fun e w' => e = .returned (.int .i64 y1) ∧ W = w')
    (v2 : ∀ W, Calls Try.prog 16 #[.int .u8 c2] W fun e w' => e = .returned (.int .i64 y2) ∧ W = w')
    (h0 : 0 ≤ y0) (h0' : y0 < 64) (h1 : 0 ≤ y1) (h1' : y1 < 64) (h2 : y2 < 0) (p0 : ((c0 : Int) == 61) = false) (p1 : ((c1 : Int) == 61) = false) (p2 : ((c2 : Int) == 61) = false) :
    Calls Try.prog 55 #[.string s] w fun e w' => e = .returned (.tuple #[.slice none 0 0, .bool false]) ∧ Below w.heap.size w w' := by
  have z0 : (0 : Int) < (s.size : Int) := by omega
  have z1 : (1 : Int) < (s.size : Int) := by omega
  have z2 : (2 : Int) < (s.size : Int) := by omega
  have z3 : (3 : Int) < (s.size : Int) := by omega
  have o1 := Aside0.mk (or6 (y0) y1 (by omega) (by omega) h1 h1')
  have o0 : bits .or .i64 0 y0 = y0 := i64_or_zero y0 h0 (by omega)
  go_enter Try.func55, Try.ntmps55
  go_wp2
  refine wp_loop_rounds 5 ?_
  rw [rounds_succ]
  go_wp2_with fail
  refine (v0 _).mono ?_
  rintro e w1 ⟨rfl, rfl⟩
  go_wp2_with fail
  rw [rounds_succ]
  go_wp2_with fail
  refine (v1 _).mono ?_
  rintro e w1 ⟨rfl, rfl⟩
  go_wp2_with fail
  rw [o1.out, rounds_succ]
  go_wp2_with fail
  refine (v2 _).mono ?_
  rintro e w1 ⟨rfl, rfl⟩
  go_wp2_with fail
  go_ret2
  exact ⟨rfl, by repeat (first | exact Below.refl _ _ | apply below_alloc)⟩

theorem tP6 (s : ByteArray) (hs : 3 < s.size) (c0 c1 c2 c3 : Nat) (q0 : (s[0]'(by omega)).toNat = c0) (q1 : (s[1]'(by omega)).toNat = c1) (q2 : (s[2]'(by omega)).toNat = c2) (q3 : (s[3]'(by omega)).toNat = c3) (y0 y1 y2 y3 : Int) (w : World)
    (v0 : ∀ W, Calls Try.prog 16 #[.int .u8 c0] W fun e w' => e = .returned (.int .i64 y0) ∧ W = w')
    (v1 : ∀ W, Calls Try.prog 16 #[.int .u8 c1] W fun e w' => e = .returned (.int .i64 y1) ∧ W = w')
    (v2 : ∀ W, Calls Try.prog 16 #[.int .u8 c2] W fun e w' => e = .returned (.int .i64 y2) ∧ W = w')
    (v3 : ∀ W, Calls Try.prog 16 #[.int .u8 c3] W fun e w' => e = .returned (.int .i64 y3) ∧ W = w')
    (h0 : 0 ≤ y0) (h0' : y0 < 64) (h1 : 0 ≤ y1) (h1' : y1 < 64) (h2 : 0 ≤ y2) (h2' : y2 < 64) (h3 : y3 < 0) (p0 : ((c0 : Int) == 61) = false) (p1 : ((c1 : Int) == 61) = false) (p2 : ((c2 : Int) == 61) = false) (p3 : ((c3 : Int) == 61) = false) :
    Calls Try.prog 55 #[.string s] w fun e w' => e = .returned (.tuple #[.slice none 0 0, .bool false]) ∧ Below w.heap.size w w' := by
  have z0 : (0 : Int) < (s.size : Int) := by omega
  have z1 : (1 : Int) < (s.size : Int) := by omega
  have z2 : (2 : Int) < (s.size : Int) := by omega
  have z3 : (3 : Int) < (s.size : Int) := by omega
  have o1 := Aside0.mk (or6 (y0) y1 (by omega) (by omega) h1 h1')
  have o2 := Aside0.mk (or6 (y0 * 64 + y1) y2 (by omega) (by omega) h2 h2')
  have o0 : bits .or .i64 0 y0 = y0 := i64_or_zero y0 h0 (by omega)
  go_enter Try.func55, Try.ntmps55
  go_wp2
  refine wp_loop_rounds 5 ?_
  rw [rounds_succ]
  go_wp2_with fail
  refine (v0 _).mono ?_
  rintro e w1 ⟨rfl, rfl⟩
  go_wp2_with fail
  rw [rounds_succ]
  go_wp2_with fail
  refine (v1 _).mono ?_
  rintro e w1 ⟨rfl, rfl⟩
  go_wp2_with fail
  rw [o1.out, rounds_succ]
  go_wp2_with fail
  refine (v2 _).mono ?_
  rintro e w1 ⟨rfl, rfl⟩
  go_wp2_with fail
  rw [o2.out, rounds_succ]
  go_wp2_with fail
  refine (v3 _).mono ?_
  rintro e w1 ⟨rfl, rfl⟩
  go_wp2_with fail
  go_ret2
  exact ⟨rfl, by repeat (first | exact Below.refl _ _ | apply below_alloc)⟩

theorem tC1a (s : ByteArray) (hs : 3 < s.size) (c0 c1 : Nat) (q0 : (s[0]'(by omega)).toNat = c0) (q1 : (s[1]'(by omega)).toNat = c1) (q2 : (s[2]'(by omega)).toNat = 61) (q3 : (s[3]'(by omega)).toNat = 61) (y0 y1 y2 y3 : Int) (w : World)
    (v0 : ∀ W, Calls Try.prog 16 #[.int .u8 c0] W fun e w' => e = .returned (.int .i64 y0) ∧ W = w')
    (v1 : ∀ W, Calls Try.prog 16 #[.int .u8 c1] W fun e w' => e = .returned (.int .i64 y1) ∧ W = w')
    (v2 : ∀ W, Calls Try.prog 16 #[.int .u8 61] W fun e w' => e = .returned (.int .i64 y2) ∧ W = w')
    (v3 : ∀ W, Calls Try.prog 16 #[.int .u8 61] W fun e w' => e = .returned (.int .i64 y3) ∧ W = w')
    (h0 : 0 ≤ y0) (h0' : y0 < 64) (h1 : 0 ≤ y1) (h1' : y1 < 64) (p0 : ((c0 : Int) == 61) = false) (p1 : ((c1 : Int) == 61) = false) (t1 : ((((y0 * 64 + y1) * 64) * 64) / 256 % 256 == 0) = false) (t1' : ((((y0 * 64 + y1) * 64) * 64) / 256 % 256 != 0) = true) :
    Calls Try.prog 55 #[.string s] w fun e w' => e = .returned (.tuple #[.slice none 0 0, .bool false]) ∧ Below w.heap.size w w' := by
  have z0 : (0 : Int) < (s.size : Int) := by omega
  have z1 : (1 : Int) < (s.size : Int) := by omega
  have z2 : (2 : Int) < (s.size : Int) := by omega
  have z3 : (3 : Int) < (s.size : Int) := by omega
  have o1 := Aside0.mk (or6 (y0) y1 (by omega) (by omega) h1 h1')
  have o2 : Aside0 (bits .or .i64 ((y0 * 64 + y1) * 64) 0 = (y0 * 64 + y1) * 64) := ⟨by simpa using or6 (y0 * 64 + y1) 0 (by omega) (by omega) (by omega) (by omega)⟩
  have o3 : Aside0 (bits .or .i64 (((y0 * 64 + y1) * 64) * 64) 0 = ((y0 * 64 + y1) * 64) * 64) := ⟨by simpa using or6 ((y0 * 64 + y1) * 64) 0 (by omega) (by omega) (by omega) (by omega)⟩
  have o0 : bits .or .i64 0 y0 = y0 := i64_or_zero y0 h0 (by omega)
  go_enter Try.func55, Try.ntmps55
  go_wp2
  refine wp_loop_rounds 5 ?_
  rw [rounds_succ]
  go_wp2_with fail
  refine (v0 _).mono ?_
  rintro e w1 ⟨rfl, rfl⟩
  go_wp2_with fail
  rw [rounds_succ]
  go_wp2_with fail
  refine (v1 _).mono ?_
  rintro e w1 ⟨rfl, rfl⟩
  go_wp2_with fail
  rw [o1.out, rounds_succ]
  go_wp2_with fail
  refine (v2 _).mono ?_
  rintro e w1 ⟨rfl, rfl⟩
  go_wp2_with fail
  rw [o2.out, rounds_succ]
  go_wp2_with fail
  refine (v3 _).mono ?_
  rintro e w1 ⟨rfl, rfl⟩
  go_wp2_with fail
  rw [o3.out, rounds_succ]
  go_wp2_with fail
  refine wp_loop_rounds 4 ?_
  rw [rounds_succ]
  go_wp2_with fail
  go_ret2
  exact ⟨rfl, by repeat (first | exact Below.refl _ _ | apply below_alloc)⟩

theorem tC1b (s : ByteArray) (hs : 3 < s.size) (c0 c1 : Nat) (q0 : (s[0]'(by omega)).toNat = c0) (q1 : (s[1]'(by omega)).toNat = c1) (q2 : (s[2]'(by omega)).toNat = 61) (q3 : (s[3]'(by omega)).toNat = 61) (y0 y1 y2 y3 : Int) (w : World)
    (v0 : ∀ W, Calls Try.prog 16 #[.int .u8 c0] W fun e w' => e = .returned (.int .i64 y0) ∧ W = w')
    (v1 : ∀ W, Calls Try.prog 16 #[.int .u8 c1] W fun e w' => e = .returned (.int .i64 y1) ∧ W = w')
    (v2 : ∀ W, Calls Try.prog 16 #[.int .u8 61] W fun e w' => e = .returned (.int .i64 y2) ∧ W = w')
    (v3 : ∀ W, Calls Try.prog 16 #[.int .u8 61] W fun e w' => e = .returned (.int .i64 y3) ∧ W = w')
    (h0 : 0 ≤ y0) (h0' : y0 < 64) (h1 : 0 ≤ y1) (h1' : y1 < 64) (p0 : ((c0 : Int) == 61) = false) (p1 : ((c1 : Int) == 61) = false) (t1 : ((((y0 * 64 + y1) * 64) * 64) / 256 % 256 == 0) = true) (t1' : ((((y0 * 64 + y1) * 64) * 64) / 256 % 256 != 0) = false) (t2 : ((((y0 * 64 + y1) * 64) * 64) % 256 == 0) = false) (t2' : ((((y0 * 64 + y1) * 64) * 64) % 256 != 0) = true) :
    Calls Try.prog 55 #[.string s] w fun e w' => e = .returned (.tuple #[.slice none 0 0, .bool false]) ∧ Below w.heap.size w w' := by
  have z0 : (0 : Int) < (s.size : Int) := by omega
  have z1 : (1 : Int) < (s.size : Int) := by omega
  have z2 : (2 : Int) < (s.size : Int) := by omega
  have z3 : (3 : Int) < (s.size : Int) := by omega
  have o1 := Aside0.mk (or6 (y0) y1 (by omega) (by omega) h1 h1')
  have o2 : Aside0 (bits .or .i64 ((y0 * 64 + y1) * 64) 0 = (y0 * 64 + y1) * 64) := ⟨by simpa using or6 (y0 * 64 + y1) 0 (by omega) (by omega) (by omega) (by omega)⟩
  have o3 : Aside0 (bits .or .i64 (((y0 * 64 + y1) * 64) * 64) 0 = ((y0 * 64 + y1) * 64) * 64) := ⟨by simpa using or6 ((y0 * 64 + y1) * 64) 0 (by omega) (by omega) (by omega) (by omega)⟩
  have o0 : bits .or .i64 0 y0 = y0 := i64_or_zero y0 h0 (by omega)
  go_enter Try.func55, Try.ntmps55
  go_wp2
  refine wp_loop_rounds 5 ?_
  rw [rounds_succ]
  go_wp2_with fail
  refine (v0 _).mono ?_
  rintro e w1 ⟨rfl, rfl⟩
  go_wp2_with fail
  rw [rounds_succ]
  go_wp2_with fail
  refine (v1 _).mono ?_
  rintro e w1 ⟨rfl, rfl⟩
  go_wp2_with fail
  rw [o1.out, rounds_succ]
  go_wp2_with fail
  refine (v2 _).mono ?_
  rintro e w1 ⟨rfl, rfl⟩
  go_wp2_with fail
  rw [o2.out, rounds_succ]
  go_wp2_with fail
  refine (v3 _).mono ?_
  rintro e w1 ⟨rfl, rfl⟩
  go_wp2_with fail
  rw [o3.out, rounds_succ]
  go_wp2_with fail
  refine wp_loop_rounds 4 ?_
  rw [rounds_succ]
  go_wp2_with fail
  rw [rounds_succ]
  go_wp2_with fail
  go_ret2
  exact ⟨rfl, by repeat (first | exact Below.refl _ _ | apply below_alloc)⟩

theorem tC1 (s : ByteArray) (hs : 3 < s.size) (c0 c1 : Nat) (q0 : (s[0]'(by omega)).toNat = c0) (q1 : (s[1]'(by omega)).toNat = c1) (q2 : (s[2]'(by omega)).toNat = 61) (q3 : (s[3]'(by omega)).toNat = 61) (y0 y1 y2 y3 : Int) (w : World)
    (v0 : ∀ W, Calls Try.prog 16 #[.int .u8 c0] W fun e w' => e = .returned (.int .i64 y0) ∧ W = w')
    (v1 : ∀ W, Calls Try.prog 16 #[.int .u8 c1] W fun e w' => e = .returned (.int .i64 y1) ∧ W = w')
    (v2 : ∀ W, Calls Try.prog 16 #[.int .u8 61] W fun e w' => e = .returned (.int .i64 y2) ∧ W = w')
    (v3 : ∀ W, Calls Try.prog 16 #[.int .u8 61] W fun e w' => e = .returned (.int .i64 y3) ∧ W = w')
    (h0 : 0 ≤ y0) (h0' : y0 < 64) (h1 : 0 ≤ y1) (h1' : y1 < 64) (p0 : ((c0 : Int) == 61) = false) (p1 : ((c1 : Int) == 61) = false) (t1 : ((((y0 * 64 + y1) * 64) * 64) / 256 % 256 == 0) = true) (t1' : ((((y0 * 64 + y1) * 64) * 64) / 256 % 256 != 0) = false) (t2 : ((((y0 * 64 + y1) * 64) * 64) % 256 == 0) = true) (t2' : ((((y0 * 64 + y1) * 64) * 64) % 256 != 0) = false) :
    Calls Try.prog 55 #[.string s] w fun e w' => ∃ v, e = .returned (.tuple #[v, .bool true]) ∧ R8 w' w.heap.size v ([(((y0 * 64 + y1) * 64) * 64) / 65536, (((y0 * 64 + y1) * 64) * 64) / 256 % 256, (((y0 * 64 + y1) * 64) * 64) % 256].take 1) ∧ Below w.heap.size w w' := by
  have z0 : (0 : Int) < (s.size : Int) := by omega
  have z1 : (1 : Int) < (s.size : Int) := by omega
  have z2 : (2 : Int) < (s.size : Int) := by omega
  have z3 : (3 : Int) < (s.size : Int) := by omega
  have o1 := Aside0.mk (or6 (y0) y1 (by omega) (by omega) h1 h1')
  have o2 : Aside0 (bits .or .i64 ((y0 * 64 + y1) * 64) 0 = (y0 * 64 + y1) * 64) := ⟨by simpa using or6 (y0 * 64 + y1) 0 (by omega) (by omega) (by omega) (by omega)⟩
  have o3 : Aside0 (bits .or .i64 (((y0 * 64 + y1) * 64) * 64) 0 = ((y0 * 64 + y1) * 64) * 64) := ⟨by simpa using or6 ((y0 * 64 + y1) * 64) 0 (by omega) (by omega) (by omega) (by omega)⟩
  have o0 : bits .or .i64 0 y0 = y0 := i64_or_zero y0 h0 (by omega)
  go_enter Try.func55, Try.ntmps55
  go_wp2
  refine wp_loop_rounds 5 ?_
  rw [rounds_succ]
  go_wp2_with fail
  refine (v0 _).mono ?_
  rintro e w1 ⟨rfl, rfl⟩
  go_wp2_with fail
  rw [rounds_succ]
  go_wp2_with fail
  refine (v1 _).mono ?_
  rintro e w1 ⟨rfl, rfl⟩
  go_wp2_with fail
  rw [o1.out, rounds_succ]
  go_wp2_with fail
  refine (v2 _).mono ?_
  rintro e w1 ⟨rfl, rfl⟩
  go_wp2_with fail
  rw [o2.out, rounds_succ]
  go_wp2_with fail
  refine (v3 _).mono ?_
  rintro e w1 ⟨rfl, rfl⟩
  go_wp2_with fail
  rw [o3.out, rounds_succ]
  go_wp2_with fail
  refine wp_loop_rounds 4 ?_
  rw [rounds_succ]
  go_wp2_with fail
  rw [rounds_succ]
  go_wp2_with fail
  rw [rounds_succ]
  go_wp2_with fail
  go_ret2
  exact ⟨_, rfl, Kd.R_take (R8_new w w.heap.size (Nat.le_refl _) [(((y0 * 64 + y1) * 64) * 64) / 65536, (((y0 * 64 + y1) * 64) * 64) / 256 % 256, (((y0 * 64 + y1) * 64) * 64) % 256] (by simp)) (by simp), by repeat (first | exact Below.refl _ _ | apply below_alloc)⟩

theorem tC2a (s : ByteArray) (hs : 3 < s.size) (c0 c1 c2 : Nat) (q0 : (s[0]'(by omega)).toNat = c0) (q1 : (s[1]'(by omega)).toNat = c1) (q2 : (s[2]'(by omega)).toNat = c2) (q3 : (s[3]'(by omega)).toNat = 61) (y0 y1 y2 y3 : Int) (w : World)
    (v0 : ∀ W, Calls Try.prog 16 #[.int .u8 c0] W fun e w' => e = .returned (.int .i64 y0) ∧ W = w')
    (v1 : ∀ W, Calls Try.prog 16 #[.int .u8 c1] W fun e w' => e = .returned (.int .i64 y1) ∧ W = w')
    (v2 : ∀ W, Calls Try.prog 16 #[.int .u8 c2] W fun e w' => e = .returned (.int .i64 y2) ∧ W = w')
    (v3 : ∀ W, Calls Try.prog 16 #[.int .u8 61] W fun e w' => e = .returned (.int .i64 y3) ∧ W = w')
    (h0 : 0 ≤ y0) (h0' : y0 < 64) (h1 : 0 ≤ y1) (h1' : y1 < 64) (h2 : 0 ≤ y2) (h2' : y2 < 64) (p0 : ((c0 : Int) == 61) = false) (p1 : ((c1 : Int) == 61) = false) (p2 : ((c2 : Int) == 61) = false) (t2 : ((((y0 * 64 + y1) * 64 + y2) * 64) % 256 == 0) = false) (t2' : ((((y0 * 64 + y1) * 64 + y2) * 64) % 256 != 0) = true) :
    Calls Try.prog 55 #[.string s] w fun e w' => e = .returned (.tuple #[.slice none 0 0, .bool false]) ∧ Below w.heap.size w w' := by
  have z0 : (0 : Int) < (s.size : Int) := by omega
  have z1 : (1 : Int) < (s.size : Int) := by omega
  have z2 : (2 : Int) < (s.size : Int) := by omega
  have z3 : (3 : Int) < (s.size : Int) := by omega
  have o1 := Aside0.mk (or6 (y0) y1 (by omega) (by omega) h1 h1')
  have o2 := Aside0.mk (or6 (y0 * 64 + y1) y2 (by omega) (by omega) h2 h2')
  have o3 : Aside0 (bits .or .i64 (((y0 * 64 + y1) * 64 + y2) * 64) 0 = ((y0 * 64 + y1) * 64 + y2) * 64) := ⟨by simpa using or6 ((y0 * 64 + y1) * 64 + y2) 0 (by omega) (by omega) (by omega) (by omega)⟩
  have o0 : bits .or .i64 0 y0 = y0 := i64_or_zero y0 h0 (by omega)
  go_enter Try.func55, Try.ntmps55
  go_wp2
  refine wp_loop_rounds 5 ?_
  rw [rounds_succ]
  go_wp2_with fail
  refine (v0 _).mono ?_
  rintro e w1 ⟨rfl, rfl⟩
  go_wp2_with fail
  rw [rounds_succ]
  go_wp2_with fail
  refine (v1 _).mono ?_
  rintro e w1 ⟨rfl, rfl⟩
  go_wp2_with fail
  rw [o1.out, rounds_succ]
  go_wp2_with fail
  refine (v2 _).mono ?_
  rintro e w1 ⟨rfl, rfl⟩
  go_wp2_with fail
  rw [o2.out, rounds_succ]
  go_wp2_with fail
  refine (v3 _).mono ?_
  rintro e w1 ⟨rfl, rfl⟩
  go_wp2_with fail
  rw [o3.out, rounds_succ]
  go_wp2_with fail
  refine wp_loop_rounds 4 ?_
  rw [rounds_succ]
  go_wp2_with fail
  go_ret2
  exact ⟨rfl, by repeat (first | exact Below.refl _ _ | apply below_alloc)⟩

theorem tC2 (s : ByteArray) (hs : 3 < s.size) (c0 c1 c2 : Nat) (q0 : (s[0]'(by omega)).toNat = c0) (q1 : (s[1]'(by omega)).toNat = c1) (q2 : (s[2]'(by omega)).toNat = c2) (q3 : (s[3]'(by omega)).toNat = 61) (y0 y1 y2 y3 : Int) (w : World)
    (v0 : ∀ W, Calls Try.prog 16 #[.int .u8 c0] W fun e w' => e = .returned (.int .i64 y0) ∧ W = w')
    (v1 : ∀ W, Calls Try.prog 16 #[.int .u8 c1] W fun e w' => e = .returned (.int .i64 y1) ∧ W = w')
    (v2 : ∀ W, Calls Try.prog 16 #[.int .u8 c2] W fun e w' => e = .returned (.int .i64 y2) ∧ W = w')
    (v3 : ∀ W, Calls Try.prog 16 #[.int .u8 61] W fun e w' => e = .returned (.int .i64 y3) ∧ W = w')
    (h0 : 0 ≤ y0) (h0' : y0 < 64) (h1 : 0 ≤ y1) (h1' : y1 < 64) (h2 : 0 ≤ y2) (h2' : y2 < 64) (p0 : ((c0 : Int) == 61) = false) (p1 : ((c1 : Int) == 61) = false) (p2 : ((c2 : Int) == 61) = false) (t2 : ((((y0 * 64 + y1) * 64 + y2) * 64) % 256 == 0) = true) (t2' : ((((y0 * 64 + y1) * 64 + y2) * 64) % 256 != 0) = false) :
    Calls Try.prog 55 #[.string s] w fun e w' => ∃ v, e = .returned (.tuple #[v, .bool true]) ∧ R8 w' w.heap.size v ([(((y0 * 64 + y1) * 64 + y2) * 64) / 65536, (((y0 * 64 + y1) * 64 + y2) * 64) / 256 % 256, (((y0 * 64 + y1) * 64 + y2) * 64) % 256].take 2) ∧ Below w.heap.size w w' := by
  have z0 : (0 : Int) < (s.size : Int) := by omega
  have z1 : (1 : Int) < (s.size : Int) := by omega
  have z2 : (2 : Int) < (s.size : Int) := by omega
  have z3 : (3 : Int) < (s.size : Int) := by omega
  have o1 := Aside0.mk (or6 (y0) y1 (by omega) (by omega) h1 h1')
  have o2 := Aside0.mk (or6 (y0 * 64 + y1) y2 (by omega) (by omega) h2 h2')
  have o3 : Aside0 (bits .or .i64 (((y0 * 64 + y1) * 64 + y2) * 64) 0 = ((y0 * 64 + y1) * 64 + y2) * 64) := ⟨by simpa using or6 ((y0 * 64 + y1) * 64 + y2) 0 (by omega) (by omega) (by omega) (by omega)⟩
  have o0 : bits .or .i64 0 y0 = y0 := i64_or_zero y0 h0 (by omega)
  go_enter Try.func55, Try.ntmps55
  go_wp2
  refine wp_loop_rounds 5 ?_
  rw [rounds_succ]
  go_wp2_with fail
  refine (v0 _).mono ?_
  rintro e w1 ⟨rfl, rfl⟩
  go_wp2_with fail
  rw [rounds_succ]
  go_wp2_with fail
  refine (v1 _).mono ?_
  rintro e w1 ⟨rfl, rfl⟩
  go_wp2_with fail
  rw [o1.out, rounds_succ]
  go_wp2_with fail
  refine (v2 _).mono ?_
  rintro e w1 ⟨rfl, rfl⟩
  go_wp2_with fail
  rw [o2.out, rounds_succ]
  go_wp2_with fail
  refine (v3 _).mono ?_
  rintro e w1 ⟨rfl, rfl⟩
  go_wp2_with fail
  rw [o3.out, rounds_succ]
  go_wp2_with fail
  refine wp_loop_rounds 4 ?_
  rw [rounds_succ]
  go_wp2_with fail
  rw [rounds_succ]
  go_wp2_with fail
  go_ret2
  exact ⟨_, rfl, Kd.R_take (R8_new w w.heap.size (Nat.le_refl _) [(((y0 * 64 + y1) * 64 + y2) * 64) / 65536, (((y0 * 64 + y1) * 64 + y2) * 64) / 256 % 256, (((y0 * 64 + y1) * 64 + y2) * 64) % 256] (by simp)) (by simp), by repeat (first | exact Below.refl _ _ | apply below_alloc)⟩

theorem tP7 (s : ByteArray) (hs : 3 < s.size) (c0 c1 c2 c3 : Nat) (q0 : (s[0]'(by omega)).toNat = c0) (q1 : (s[1]'(by omega)).toNat = c1) (q2 : (s[2]'(by omega)).toNat = c2) (q3 : (s[3]'(by omega)).toNat = c3) (y0 y1 y2 y3 : Int) (w : World)
    (v0 : ∀ W, Calls Try.prog 16 #[.int .u8 c0] W fun e w' => e = .returned (.int .i64 y0) ∧ W = w')
    (v1 : ∀ W, Calls Try.prog 16 #[.int .u8 c1] W fun e w' => e = .returned (.int .i64 y1) ∧ W = w')
    (v2 : ∀ W, Calls Try.prog 16 #[.int .u8 c2] W fun e w' => e = .returned (.int .i64 y2) ∧ W = w')
    (v3 : ∀ W, Calls Try.prog 16 #[.int .u8 c3] W fun e w' => e = .returned (.int .i64 y3) ∧ W = w')
    (h0 : 0 ≤ y0) (h0' : y0 < 64) (h1 : 0 ≤ y1) (h1' : y1 < 64) (h2 : 0 ≤ y2) (h2' : y2 < 64) (h3 : 0 ≤ y3) (h3' : y3 < 64) (p0 : ((c0 : Int) == 61) = false) (p1 : ((c1 : Int) == 61) = false) (p2 : ((c2 : Int) == 61) = false) (p3 : ((c3 : Int) == 61) = false) :
    Calls Try.prog 55 #[.string s] w fun e w' => ∃ v, e = .returned (.tuple #[v, .bool true]) ∧ R8 w' w.heap.size v ([(((y0 * 64 + y1) * 64 + y2) * 64 + y3) / 65536, (((y0 * 64 + y1) * 64 + y2) * 64 + y3) / 256 % 256, (((y0 * 64 + y1) * 64 + y2) * 64 + y3) % 256].take 3) ∧ Below w.heap.size w w' := by
  have z0 : (0 : Int) < (s.size : Int) := by omega
  have z1 : (1 : Int) < (s.size : Int) := by omega
  have z2 : (2 : Int) < (s.size : Int) := by omega
  have z3 : (3 : Int) < (s.size : Int) := by omega
  have o1 := Aside0.mk (or6 (y0) y1 (by omega) (by omega) h1 h1')
  have o2 := Aside0.mk (or6 (y0 * 64 + y1) y2 (by omega) (by omega) h2 h2')
  have o3 := Aside0.mk (or6 ((y0 * 64 + y1) * 64 + y2) y3 (by omega) (by omega) h3 h3')
  have o0 : bits .or .i64 0 y0 = y0 := i64_or_zero y0 h0 (by omega)
  go_enter Try.func55, Try.ntmps55
  go_wp2
  refine wp_loop_rounds 5 ?_
  rw [rounds_succ]
  go_wp2_with fail
  refine (v0 _).mono ?_
  rintro e w1 ⟨rfl, rfl⟩
  go_wp2_with fail
  rw [rounds_succ]
  go_wp2_with fail
  refine (v1 _).mono ?_
  rintro e w1 ⟨rfl, rfl⟩
  go_wp2_with fail
  rw [o1.out, rounds_succ]
  go_wp2_with fail
  refine (v2 _).mono ?_
  rintro e w1 ⟨rfl, rfl⟩
  go_wp2_with fail
  rw [o2.out, rounds_succ]
  go_wp2_with fail
  refine (v3 _).mono ?_
  rintro e w1 ⟨rfl, rfl⟩
  go_wp2_with fail
  rw [o3.out, rounds_succ]
  go_wp2_with fail
  refine wp_loop_rounds 4 ?_
  rw [rounds_succ]
  go_wp2_with fail
  go_ret2
  exact ⟨_, rfl, Kd.R_take (R8_new w w.heap.size (Nat.le_refl _) [(((y0 * 64 + y1) * 64 + y2) * 64 + y3) / 65536, (((y0 * 64 + y1) * 64 + y2) * 64 + y3) / 256 % 256, (((y0 * 64 + y1) * 64 + y2) * 64 + y3) % 256] (by simp)) (by simp), by repeat (first | exact Below.refl _ _ | apply below_alloc)⟩
end Go.Proofs.Ytfefpbnhpncmlaa.BaseT
