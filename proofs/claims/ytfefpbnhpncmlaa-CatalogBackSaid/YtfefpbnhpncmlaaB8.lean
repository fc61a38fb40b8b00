import Derived.Test.YtfefpbnhpncmlaaPBaseSignsx1
import Derived.Deep.Slices
namespace Go.Proofs.Ytfefpbnhpncmlaa.B8
open Go.RowKit Go.Proofs.Ytfefpbnhpncmlaa.PBaseSigns Go.Proofs.YtfefpbnhpncmlaaW.PrintWords Go.Proofs.YtfefpbnhpncmlaaW.PrintLast Go.Proofs.YtfefpbnhpncmlaaW.PrintMore
set_option linter.unusedVariables false

theorem info5 : (Try.prog.info? 5).map (fun i => (i.zero, i.size, i.bytes)) = some (some (.int .u8 0), 1, 1) := by kernel_rfl
/-- A row of bytes that the call itself made. -/
abbrev R8 (w : World) (base : Nat) (v : Value) (xs : List Int) : Prop := Kd.R (Kd.int .u8) 5 w base (fun _ => True) v xs
/-- A row of bytes that is read. -/
abbrev C8 (w : World) (A : Option Addr) (n : Nat) (xs : List Int) : Prop := Kd.C (Kd.int .u8) w A n xs

section
variable {ops : Array Oper} {o : Oper} {rest : List Oper} {a : Act} {Q : Exit → Act → World → Prop}
/-- append(out, x) -/
theorem app1 {w0 W : World} (base : Nat) (hgd : o.guard = none) (s x : Operand)
    (ho : o.op = .call { callee := .builtin .append, args := #[s, x], argTypes := #[31, 31] })
    (v : Value) (xs : List Int) (p : Int) (hs : a.eval s = v) (hx : a.eval x = .slice (some ⟨W.heap.size, 0, none⟩) 1 1)
    (HO : R8 W base v xs) (HB : Below base w0 W) (hbase : base ≤ W.heap.size) (hl : xs.length < 140737488355328)
    (h : ∀ v1 w1, R8 w1 base v1 (xs ++ [p]) → Below base w0 w1 → wpList Try.prog ops Q rest (a.put o.dst v1) w1) :
    wpList Try.prog ops Q (o :: rest) a (W.alloc (.cells #[.int .u8 p] 5)) :=
  Kd.R_append (Kd.int .u8) (w0 := w0) base hgd s x 31 5 (.int .u8 0) 1 ho Try.underlying31 info5 rfl (by decide) (by omega) v xs p [.int .u8 p] (fun _ => True) (fun _ => False) hs hx rfl (fun _ hk => hk.elim) (fun _ _ => trivial) HO HB hbase (by omega)
    (fun v1 w1 h1 h2 _ _ => h v1 w1 h1 h2)
/-- append(out, ys...), the ys in no row of out's own -/
theorem appRow {w0 W : World} (base : Nat) (hgd : o.guard = none) (s x : Operand)
    (ho : o.op = .call { callee := .builtin .append, args := #[s, x], argTypes := #[31, 31] })
    (v : Value) (xs ys : List Int) (A : Option Addr) (m c : Nat) (hs : a.eval s = v) (hx : a.eval x = .slice A m c)
    (HO : R8 W base v xs) (HR : C8 W A m ys) (HB : Below base w0 W) (hbase : base ≤ W.heap.size) (hl : xs.length + m ≤ 140737488355328)
    (h : ∀ v1 w1, R8 w1 base v1 (xs ++ ys) → Below base w0 w1 → W.grownBy w1 v.ownBlock → wpList Try.prog ops Q rest (a.put o.dst v1) w1) :
    wpList Try.prog ops Q (o :: rest) a W :=
  Kd.R_append_rows (Kd.int .u8) (w0 := w0) base hgd s x 31 5 (.int .u8 0) 1 ho Try.underlying31 info5 rfl (by decide) (by omega) v xs ys A m c (fun _ => True) (fun _ => False) hs hx HO HR (fun _ _ h => h) (fun _ h => h.elim) (fun _ _ => trivial) HB hbase (by omega)
    (fun v1 w1 h1 h2 h3 _ => h v1 w1 h1 h2 h3)
end

/-- Where a row that is read lies. -/
theorem C_at {α : Type} {enc : α → Value} {h1 : ∀ x, (enc x).oneCell' = true} {w : World} {A : Option Addr} {n : Nat} {xs : List α} (d : α) (h : Kd.C (Kd.scalar enc h1) w A n xs) (h0 : 0 < n) :
    ∃ b off, A = some ⟨b, off, none⟩ ∧ b < w.heap.size ∧ ∀ i, i < n → w.cell? ⟨b, off + i, none⟩ = some (enc (xs.getD i d)) := by
  obtain ⟨ad, e, hx⟩ := h.2.2 h0
  have hl := h.1
  have each : ∀ i, i < n → w.cell? (ad.add i) = some (enc (xs.getD i d)) := by
    intro i hi
    obtain ⟨c, hc, hk, hj⟩ := hx i (xs.getD i d) (by simp [List.getD, hl, hi])
    have hk' : c = [enc (xs.getD i d)] := hk
    subst hk'
    have := hj 0 _ rfl
    simpa [show (Kd.scalar enc h1).sz = 1 from rfl] using this
  have g0 := each 0 h0
  rw [show ad.add 0 = ad from rfl] at g0
  have hs : ad.spot = none := World.cell?_spot g0
  obtain ⟨b, off, s⟩ := ad
  simp only at hs
  subst hs
  refine ⟨b, off, e, World.block_lt_of_cell? w _ g0, fun i hi => ?_⟩
  have := each i hi
  rwa [show (⟨b, off, none⟩ : Addr).add i = ⟨b, off + i, none⟩ from add_at b off i] at this

theorem C_take {α : Type} {d : Kd α} {w : World} {A : Option Addr} {n m : Nat} {xs : List α} (h : Kd.C d w A n xs) (hm : m ≤ n) : Kd.C d w A m (xs.take m) := by
  obtain ⟨h1, h2, h3⟩ := h
  refine ⟨by simp; omega, by omega, fun h0 => ?_⟩
  obtain ⟨ad, e, h4⟩ := h3 (by omega)
  refine ⟨ad, e, fun j p hj => h4 j p ?_⟩
  rw [List.getElem?_take] at hj
  split at hj
  · exact hj
  · cases hj

theorem C_drop {α : Type} {d : Kd α} {w : World} {A : Option Addr} {n j c : Nat} {xs : List α} (h : Kd.C d w A n xs) (hc : n ≤ c) (hj : j ≤ n) :
    Kd.C d w (if c = j then A else A.map (·.add (j * d.sz))) (n - j) (xs.drop j) := by
  obtain ⟨h1, h2, h3⟩ := h
  refine ⟨by simp; omega, by omega, fun h0 => ?_⟩
  obtain ⟨ad, rfl, h4⟩ := h3 (by omega)
  rw [if_neg (by omega)]
  refine ⟨_, rfl, fun i p hi => ?_⟩
  rw [List.getElem?_drop] at hi
  obtain ⟨cs, g1, g2, g3⟩ := h4 _ _ hi
  refine ⟨cs, g1, g2, fun k u hk => ?_⟩
  rw [Go.Deep.add_add, ← Nat.add_assoc, ← Nat.add_mul]
  exact g3 k u hk
/-- of bytes, as the walk's slice has it -/
theorem C8_drop {w : World} {A : Option Addr} {n j c : Nat} {xs : List Int} (h : C8 w A n xs) (hc : n ≤ c) (hj : j ≤ n) : C8 w (if c = j then A else A.map (·.add j)) (n - j) (xs.drop j) := by
  have := C_drop (d := Kd.int .u8) h hc hj
  rwa [show (Kd.int .u8).sz = 1 from rfl, Nat.mul_one] at this
/-- b[:j] of a row of bytes -/
theorem cut8_to (A : Option Addr) (n c j : Nat) (hm : j ≤ n) (hc : n ≤ c) (W : World) : (Instr.slice 31 (.slice A n c) none (some (.int .i64 (j : Int))) none).run Try.prog W = .ok (.slice A j c) W := by
  obtain ⟨i0, hi, _, _, _⟩ := info_parts info5
  have := cut_to (P := Try.prog) 31 5 .i64 Try.underlying31 hi A n c (j : Int) (by omega) (by omega) hc W
  simpa using this
/-- b[j:] of a row of bytes -/
theorem cut8_from (A : Option Addr) (n c j : Nat) (hm : j ≤ n) (W : World) : (Instr.slice 31 (.slice A n c) (some (.int .i64 (j : Int))) none none).run Try.prog W = .ok (.slice (if c = j then A else A.map (·.add j)) (n - j) (c - j)) W := by
  obtain ⟨i0, hi, _, hs, _⟩ := info_parts info5
  have := cut_from (P := Try.prog) 31 5 .i64 Try.underlying31 hi 1 hs A n c (j : Int) (by omega) (by omega) W
  simpa using this

/-- A new block of bytes, read. -/
theorem C8_new (w : World) (c : List Int) (t : TypeId) (hc : c.length ≤ 9223372036854775807) : C8 (w.alloc (.cells (c.map (Value.int .u8)).toArray t)) (some ⟨w.heap.size, 0, none⟩) c.length c := by
  refine ⟨rfl, hc, fun _ => ⟨_, rfl, fun j p hj => ⟨[.int .u8 p], rfl, rfl, fun i u hu => ?_⟩⟩⟩
  match i with
  | 0 =>
    simp only [show (Kd.int .u8).sz = 1 from rfl, Nat.mul_one, Nat.add_zero]
    rw [show (⟨w.heap.size, 0, none⟩ : Addr).add j = ⟨w.heap.size, j, none⟩ from by rw [add_at]; simp]
    simp only [World.cell?_alloc_new]
    simp only [List.getElem?_cons_zero, Option.some.injEq] at hu
    subst hu
    simp [hj]
  | i + 1 => simp at hu
/-- A new block of bytes, a row of the call's own. -/
theorem R8_new (w : World) (base : Nat) (hb : base ≤ w.heap.size) (c : List Int) (hc : c.length ≤ 9223372036854775807) : R8 (w.alloc (.cells (c.map (Value.int .u8)).toArray 5)) base (.slice (some ⟨w.heap.size, 0, none⟩) c.length c.length) c := by
  refine Kd.R_of_own ?_ (fun _ _ => trivial)
  have h2 := World.ownsRow_lit (base := base) (e := 5) (size := 1) w (c.map (Value.int .u8)).toArray c.length hb (by simpa [maxLen] using hc) (by simp)
  simpa [encs] using h2
/-- All are bytes. -/
def Bytes (l : List Int) : Prop := ∀ x ∈ l, 0 ≤ x ∧ x < 256
theorem Bytes.take {l : List Int} (h : Bytes l) (n : Nat) : Bytes (l.take n) := fun x hx => h x (List.mem_of_mem_take hx)
theorem Bytes.drop {l : List Int} (h : Bytes l) (n : Nat) : Bytes (l.drop n) := fun x hx => h x (List.mem_of_mem_drop hx)
end Go.Proofs.Ytfefpbnhpncmlaa.B8
