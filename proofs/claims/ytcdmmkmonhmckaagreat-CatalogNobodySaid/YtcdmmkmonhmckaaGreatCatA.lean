/- Keys of the catalog, and its calls of no pool: contracts; no condition but that there is no pool. -/
import Derived.Test.YtcdmmkmonhmckaaGreatDeadA
import Derived.Lib.AppendStr
import Derived.Outline
namespace Go.Proofs.YtcdmmkmonhmckaaGreat.CatA
open Go.RowKit Go.Proofs.YtcdmmkmonhmckaaGreat.Agg Go.Proofs.YtcdmmkmonhmckaaGreat.CowA Go.Proofs.YtcdmmkmonhmckaaGreat.DeadA
set_option linter.unusedVariables false
set_option linter.unusedSimpArgs false

theorem info5 : (Tryz.prog.info? 5).map (fun i => (i.zero, i.size, i.bytes)) = some (some (.int .u8 0), 1, 1) := by kernel_rfl

/-- A row of so many bytes that the call itself made. -/
def Row (w : World) (base : Nat) (v : Value) (n : Nat) : Prop := ∃ xs : List Value, w.ownsRow base 5 1 v n xs ∧ ∀ u ∈ xs, u.oneCell' = true
theorem Row.nil (w : World) (base : Nat) : Row w base (.slice none 0 0) 0 := ⟨[], World.ownsRow_nil w base 5 1, by simp⟩

/-- The eight bytes of a number. -/
def Num (w : World) (e : Ending) (w' : World) : Prop := ∃ v, e = .returned v ∧ Row w' w.heap.size v 8 ∧ Below w.heap.size w w'

/-- append(out, x) -/
theorem app1 {ops : Array Oper} {o : Oper} {rest : List Oper} {a : Act} {Q : Exit → Act → World → Prop} {w0 W : World} (base : Nat) (hgd : o.guard = none) (s x : Operand)
    (ho : o.op = .call { callee := .builtin .append, args := #[s, x], argTypes := #[22, 22] })
    (v y : Value) (n : Nat) (hs : a.eval s = v) (hx : a.eval x = .slice (some ⟨W.heap.size, 0, none⟩) 1 1) (hy : y.oneCell' = true)
    (HO : Row W base v n) (HB : Below base w0 W) (hbase : base ≤ W.heap.size) (hl : n < 1000)
    (h : ∀ v1 w1, Row w1 base v1 (n + 1) → Below base w0 w1 → wpList Tryz.prog ops Q rest (a.put o.dst v1) w1) :
    wpList Tryz.prog ops Q (o :: rest) a (W.alloc (.cells #[y] 5)) := by
  obtain ⟨xs, hown, h1⟩ := HO
  obtain ⟨i0, hi, hz0, hz1, hz2⟩ := info_parts info5
  refine wpList_append_own _ hgd s x 22 ho base 5 i0 (.int .u8 0) 1 1 Tryz.underlying22 hi hz0 hz1 hz2 rfl (by decide) v n xs hs (hown.alloc _) ⟨W.heap.size, 0, none⟩ 1 1 [y] hx rfl ?c1 ?c2 ?c3 ?c4 ?c5 ?_
  case c1 =>
    intro j u hj
    cases j with
    | zero => simp at hj; subst hj; simp [Addr.add]
    | succ j => simp at hj
  case c2 => simpa using hy
  case c3 => unfold maxLen; omega
  case c4 => omega
  case c5 => simp; omega
  intro v' w1 hown' hgrow _
  refine h v' w1 ⟨_, hown', ?_⟩ (HB.trans ?_)
  · intro u hu
    rcases List.mem_append.1 hu with hu | hu
    · exact h1 u hu
    · simp at hu; rw [hu]; exact hy
  · exact (((Below.refl _ _).alloc (Nat.le_refl _) _).mono hbase).grown hgrow (by simp; omega) (by
      intro k hk
      exact (World.ownsRow.lt hown k hk).1)

set_option maxRecDepth 100000 in
set_option maxHeartbeats 1000000 in
theorem number_calls (n : Int) (w : World) : Calls Tryz.prog 133 #[.int .i64 n] w (Num w) := by
  go_enter Tryz.func133, Tryz.ntmps133
  go_wp2
  go_loopw [3, 4] (fun v i wr => ∃ k : Nat, k ≤ 8 ∧ i = .int .i64 (7 - (k : Int)) ∧ Aside1 (Row wr w.heap.size v k) ∧ Aside1 (Below w.heap.size w wr)) (fun _ i _ => ((intOf i) + 1).toNat)
  case atStart => exact ⟨0, by omega, rfl, ⟨Row.nil _ _⟩, ⟨Below.refl _ _⟩⟩
  case round =>
    obtain ⟨k, hk, rfl, HO, HB⟩ := hrel
    by_cases hlt : k < 8
    · have hs := HB.out.size
      go_wp2_with (at_builtin; refine app1 (w0 := w) w.heap.size rfl (.tmp 9) (.tmp 15) rfl u3 _ k rfl rfl rfl HO.out HB.out hs (by omega) ?_; intro v1 w1 ho hb; have HO1 := Aside1.mk ho; have HB1 := Aside1.mk hb; clear ho hb HO HB)
      go_roundw
      case rel => exact ⟨k + 1, by omega, by congr 1; omega, HO1, HB1⟩
      case measure => simp [intOf]; omega
    · obtain rfl : k = 8 := by omega
      go_wp2
      go_ret
      exact ⟨_, rfl, HO.out, HB.out⟩

/-- append(out, ys...) -/
theorem appRow {ops : Array Oper} {o : Oper} {rest : List Oper} {a : Act} {Q : Exit → Act → World → Prop} {w0 W : World} (base B : Nat) (hgd : o.guard = none) (s x : Operand)
    (ho : o.op = .call { callee := .builtin .append, args := #[s, x], argTypes := #[22, 22] })
    (v y : Value) (n m : Nat) (hs : a.eval s = v) (hx : a.eval x = y)
    (HO : Row W base v n) (HY : Row W B y m) (hm : 0 < m) (HB : Below base w0 W) (hbase : base ≤ W.heap.size) (hl : n + m < 1000)
    (h : ∀ v1 w1, Row w1 base v1 (n + m) → Below base w0 w1 → wpList Tryz.prog ops Q rest (a.put o.dst v1) w1) :
    wpList Tryz.prog ops Q (o :: rest) a W := by
  obtain ⟨xs, hown, h1⟩ := HO
  obtain ⟨ys, hy, h2⟩ := HY
  obtain ⟨i0, hi, hz0, hz1, hz2⟩ := info_parts info5
  rcases hy.2 with ⟨rfl, h0⟩ | ⟨g, cap, cur, rfl, hyr⟩
  · omega
  refine wpList_append_own _ hgd s x 22 ho base 5 i0 (.int .u8 0) 1 1 Tryz.underlying22 hi hz0 hz1 hz2 rfl (by decide) v n xs hs hown ⟨g, 0, none⟩ m cap ys hx hy.1 ?c1 h2 ?c3 ?c4 hbase ?_
  case c1 => exact World.ownsRow.cells hy (g := g) rfl
  case c3 => unfold maxLen; omega
  case c4 => omega
  intro v' w1 hown' hgrow _
  refine h v' w1 ⟨_, hown', ?_⟩ (HB.grown hgrow hbase (fun k hk => (World.ownsRow.lt hown k hk).1))
  intro u hu
  rcases List.mem_append.1 hu with hu | hu
  · exact h1 u hu
  · exact h2 u hu

theorem strCells_one (s : ByteArray) : ∀ u ∈ Go.Lib.strCells s, u.oneCell' = true := by
  intro u hu
  unfold Go.Lib.strCells at hu
  simp at hu
  obtain ⟨x, _, rfl⟩ := hu
  rfl
/-- append(out, s...) -/
theorem appStr {ops : Array Oper} {o : Oper} {rest : List Oper} {a : Act} {Q : Exit → Act → World → Prop} {w0 W : World} (base : Nat) (hgd : o.guard = none) (s x : Operand)
    (ho : o.op = .call { callee := .builtin .append, args := #[s, x], argTypes := #[22, 9] })
    (v : Value) (n : Nat) (t : ByteArray) (hs : a.eval s = v) (hx : a.eval x = .string t)
    (HO : Row W base v n) (HB : Below base w0 W) (hbase : base ≤ W.heap.size) (hl : n + t.size < 1000)
    (h : ∀ v1 w1, Row w1 base v1 (n + t.size) → Below base w0 w1 → wpList Tryz.prog ops Q rest (a.put o.dst v1) w1) :
    wpList Tryz.prog ops Q (o :: rest) a W := by
  obtain ⟨xs, hown, h1⟩ := HO
  obtain ⟨i0, hi, hz0, hz1, hz2⟩ := info_parts info5
  refine Go.Lib.wpList_append_own_string _ hgd s x 22 9 ho base 5 i0 Tryz.underlying22 Tryz.underlying9 hi hz0 hz1 hz2 v n xs hs hown t hx ?c3 ?c4 hbase ?_
  case c3 => unfold maxLen; omega
  case c4 => omega
  intro v' w1 hown' hgrow _
  refine h v' w1 ⟨_, hown', ?_⟩ (HB.grown hgrow hbase (fun k hk => (World.ownsRow.lt hown k hk).1))
  intro u hu
  rcases List.mem_append.1 hu with hu | hu
  · exact h1 u hu
  · exact strCells_one t u hu

/-- A row of so many bytes is told. -/
def Made (n : Nat) (w : World) (e : Ending) (w' : World) : Prop := ∃ v, e = .returned v ∧ Row w' w.heap.size v n ∧ Below w.heap.size w w'

theorem row_one (w : World) (base : Nat) (hb : base ≤ w.heap.size) (x : Value) (hx : x.oneCell' = true) : Row (w.alloc (.cells #[x] 5)) base (.slice (some ⟨w.heap.size, 0, none⟩) 1 1) 1 := by
  have h2 := World.ownsRow_lit (base := base) (e := 5) (size := 1) w #[x] 1 hb (by simp [maxLen]) (by simp)
  exact ⟨_, h2, by simpa using hx⟩
theorem Row.mono {w : World} {B B' : Nat} {v : Value} {n : Nat} (h : Row w B v n) (hb : B' ≤ B) : Row w B' v n := by
  obtain ⟨xs, h1, h2⟩ := h
  refine ⟨xs, ⟨h1.1, ?_⟩, h2⟩
  rcases h1.2 with h | ⟨g, cap, cur, e, hg, r⟩
  · exact .inl h
  · exact .inr ⟨g, cap, cur, e, Nat.le_trans hb hg, r⟩
theorem Row.below {w w1 : World} {B : Nat} {v : Value} {n : Nat} (h : Row w B v n) (hb : Below w.heap.size w w1) : Row w1 B v n := by
  obtain ⟨xs, ⟨h1, h2⟩, h3⟩ := h
  refine ⟨xs, ⟨h1, ?_⟩, h3⟩
  rcases h2 with h2 | ⟨g, cap, cur, rfl, hbg, hg, r⟩
  · exact .inl h2
  · exact .inr ⟨g, cap, cur, rfl, hbg, on hg hb, r⟩

set_option maxRecDepth 100000 in
theorem idKey_calls (n : Int) (w : World) : Calls Tryz.prog 125 #[.int .i64 n] w (Made 9 w) := by
  go_enter Tryz.func125, Tryz.ntmps125
  go_wp2_with fail
  refine (number_calls n _).mono ?_
  rintro e w1 ⟨v, rfl, hr, hb⟩
  have HO := Aside1.mk ((row_one w w.heap.size (Nat.le_refl _) (.int .u8 100) rfl).below hb)
  have HB := Aside1.mk (((Below.refl w.heap.size w).alloc (Nat.le_refl _) (.cells #[.int .u8 100] 5)).trans (hb.mono (by simp)))
  have HR := Aside1.mk hr
  have hs := HB.out.size
  clear hr hb
  go_wp2_with (at_builtin; refine appRow (w0 := w) w.heap.size _ rfl (.tmp 3) (.tmp 5) rfl _ _ 1 8 rfl rfl HO.out HR.out (by omega) HB.out hs (by omega) ?_; intro v1 w2 ho hb; have HO1 := Aside1.mk ho; have HB1 := Aside1.mk hb; clear ho hb)
  go_ret
  exact ⟨_, rfl, HO1.out, HB1.out⟩

set_option maxRecDepth 100000 in
theorem nameKey_calls (n : Int) (s : ByteArray) (hsz : s.size ≤ 200) (w : World) : Calls Tryz.prog 127 #[.int .i64 n, .string s] w (Made (9 + s.size) w) := by
  go_enter Tryz.func127, Tryz.ntmps127
  go_wp2_with fail
  refine (number_calls n _).mono ?_
  rintro e w1 ⟨v, rfl, hr, hb⟩
  have HO := Aside1.mk ((row_one w w.heap.size (Nat.le_refl _) (.int .u8 110) rfl).below hb)
  have HB := Aside1.mk (((Below.refl w.heap.size w).alloc (Nat.le_refl _) (.cells #[.int .u8 110] 5)).trans (hb.mono (by simp)))
  have HR := Aside1.mk hr
  have hs := HB.out.size
  clear hr hb
  go_wp2_with (first | (at_builtin; refine appRow (w0 := w) w.heap.size _ rfl (.tmp 5) (.tmp 7) rfl _ _ 1 8 rfl rfl HO.out HR.out (by omega) HB.out hs (by omega) ?_; intro v1 w2 ho hb; have HO1 := Aside1.mk ho; have HB1 := Aside1.mk hb; have hs1 := hb.size; clear ho hb) | (at_builtin; refine appStr (w0 := w) w.heap.size rfl (.tmp 8) (.tmp 9) rfl _ 9 s rfl rfl HO1.out HB1.out hs1 (by omega) ?_; intro v3 w3 ho hb; have HO3 := Aside1.mk ho; have HB3 := Aside1.mk hb; clear ho hb))
  go_ret
  exact ⟨_, rfl, HO3.out, HB3.out⟩
end Go.Proofs.YtcdmmkmonhmckaaGreat.CatA
