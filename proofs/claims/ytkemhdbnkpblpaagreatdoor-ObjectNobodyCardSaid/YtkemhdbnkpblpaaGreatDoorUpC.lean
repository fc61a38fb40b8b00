/- Bytes that the call lays, by their number alone; a version that is right. -/
import Derived.Test.YtkemhdbnkpblpaaGreatDoorUpA
import Derived.Lib.AppendStr
import Derived.Laws.AppendOwnNone
import Derived.Laws.OwnMore
import Derived.Deep.RegionHeld3
namespace Go.Proofs.YtkemhdbnkpblpaaGreatDoor.UpC
open Go.RowKit Go.Proofs.YtkemhdbnkpblpaaGreatDoor.Agg
set_option linter.unusedVariables false
set_option linter.unusedSimpArgs false

theorem info5 : (Tryz.prog.info? 5).map (fun i => (i.zero, i.size, i.bytes)) = some (some (.int .u8 0), 1, 1) := by kernel_rfl

/-- A row of so many bytes that the call itself made. -/
def Row (w : World) (base : Nat) (v : Value) (n : Nat) : Prop := ∃ xs : List Value, w.ownsRow base 5 1 v n xs ∧ ∀ u ∈ xs, u.oneCell' = true
theorem Row.nil (w : World) (base : Nat) : Row w base (.slice none 0 0) 0 := ⟨[], World.ownsRow_nil w base 5 1, by simp⟩

/-- append(out, x) -/
theorem app1 {ops : Array Oper} {o : Oper} {rest : List Oper} {a : Act} {Q : Exit → Act → World → Prop} {w0 W : World} (base : Nat) (hgd : o.guard = none) (s x : Operand)
    (ho : o.op = .call { callee := .builtin .append, args := #[s, x], argTypes := #[22, 22] })
    (v y : Value) (n : Nat) (hs : a.eval s = v) (hx : a.eval x = .slice (some ⟨W.heap.size, 0, none⟩) 1 1) (hy : y.oneCell' = true)
    (HO : Row W base v n) (HB : Below base w0 W) (hbase : base ≤ W.heap.size) (hl : n < 1000)
    (h : ∀ v1 w1, Row w1 base v1 (n + 1) → Below base w0 w1 → wpList Tryz.prog ops Q rest (a.put o.dst v1) w1) :
    wpList Tryz.prog ops Q (o :: rest) a (W.alloc (.cells #[y] 5)) := by
  obtain ⟨xs, hown, h1⟩ := HO
  obtain ⟨i0, hi, hz0, hz1, hz2⟩ := info_parts info5
  refine wpList_append_own _ hgd s x 22 ho base 5 i0 (.int .u8 0) 1 1 Tryz.underlying22 hi hz0 hz1 hz2 rfl (by decide) v n xs hs (hown.alloc _) ⟨W.heap.size, 0, none⟩ 1 1 [y] hx rfl ?c1 ?c2 ?c3 ?c4 ?c5 ?_
  case c1 =>
    intro j u hj
    cases j with
    | zero => simp at hj; subst hj; simp [Addr.add]
    | succ j => simp at hj
  case c2 => simpa using hy
  case c3 => unfold maxLen; omega
  case c4 => omega
  case c5 => simp; omega
  intro v' w1 hown' hgrow _
  refine h v' w1 ⟨_, hown', ?_⟩ (HB.trans ?_)
  · intro u hu
    rcases List.mem_append.1 hu with hu | hu
    · exact h1 u hu
    · simp at hu; rw [hu]; exact hy
  · exact (((Below.refl _ _).alloc (Nat.le_refl _) _).mono hbase).grown hgrow (by simp; omega) (by
      intro k hk
      exact (World.ownsRow.lt hown k hk).1)

/-- append(out, ys...) -/
theorem appRow {ops : Array Oper} {o : Oper} {rest : List Oper} {a : Act} {Q : Exit → Act → World → Prop} {w0 W : World} (base B : Nat) (hgd : o.guard = none) (s x : Operand)
    (ho : o.op = .call { callee := .builtin .append, args := #[s, x], argTypes := #[22, 22] })
    (v y : Value) (n m : Nat) (hs : a.eval s = v) (hx : a.eval x = y)
    (HO : Row W base v n) (HY : Row W B y m) (HB : Below base w0 W) (hbase : base ≤ W.heap.size) (hl : n + m < 1000)
    (h : ∀ v1 w1, Row w1 base v1 (n + m) → Below base w0 w1 → wpList Tryz.prog ops Q rest (a.put o.dst v1) w1) :
    wpList Tryz.prog ops Q (o :: rest) a W := by
  obtain ⟨xs, hown, h1⟩ := HO
  obtain ⟨ys, hy, h2⟩ := HY
  obtain ⟨i0, hi, hz0, hz1, hz2⟩ := info_parts info5
  rcases hy.2 with ⟨rfl, h0⟩ | ⟨g, cap, cur, rfl, hyr⟩
  · refine wpList_append_own_none hgd s x 22 ho base 5 i0 1 Tryz.underlying22 hi v n xs hs hown hx ?_
    subst h0
    exact h v W ⟨xs, hown, h1⟩ HB
  refine wpList_append_own _ hgd s x 22 ho base 5 i0 (.int .u8 0) 1 1 Tryz.underlying22 hi hz0 hz1 hz2 rfl (by decide) v n xs hs hown ⟨g, 0, none⟩ m cap ys hx hy.1 ?c1 h2 ?c3 ?c4 hbase ?_
  case c1 => exact World.ownsRow.cells hy (g := g) rfl
  case c3 => unfold maxLen; omega
  case c4 => omega
  intro v' w1 hown' hgrow _
  refine h v' w1 ⟨_, hown', ?_⟩ (HB.grown hgrow hbase (fun k hk => (World.ownsRow.lt hown k hk).1))
  intro u hu
  rcases List.mem_append.1 hu with hu | hu
  · exact h1 u hu
  · exact h2 u hu

theorem strCells_one (s : ByteArray) : ∀ u ∈ Go.Lib.strCells s, u.oneCell' = true := by
  intro u hu
  unfold Go.Lib.strCells at hu
  simp at hu
  obtain ⟨x, _, rfl⟩ := hu
  rfl
/-- append(out, s...) -/
theorem appStr {ops : Array Oper} {o : Oper} {rest : List Oper} {a : Act} {Q : Exit → Act → World → Prop} {w0 W : World} (base : Nat) (hgd : o.guard = none) (s x : Operand)
    (ho : o.op = .call { callee := .builtin .append, args := #[s, x], argTypes := #[22, 9] })
    (v : Value) (n : Nat) (t : ByteArray) (hs : a.eval s = v) (hx : a.eval x = .string t)
    (HO : Row W base v n) (HB : Below base w0 W) (hbase : base ≤ W.heap.size) (hl : n + t.size < 1000)
    (h : ∀ v1 w1, Row w1 base v1 (n + t.size) → Below base w0 w1 → wpList Tryz.prog ops Q rest (a.put o.dst v1) w1) :
    wpList Tryz.prog ops Q (o :: rest) a W := by
  obtain ⟨xs, hown, h1⟩ := HO
  obtain ⟨i0, hi, hz0, hz1, hz2⟩ := info_parts info5
  refine Go.Lib.wpList_append_own_string _ hgd s x 22 9 ho base 5 i0 Tryz.underlying22 Tryz.underlying9 hi hz0 hz1 hz2 v n xs hs hown t hx ?c3 ?c4 hbase ?_
  case c3 => unfold maxLen; omega
  case c4 => omega
  intro v' w1 hown' hgrow _
  refine h v' w1 ⟨_, hown', ?_⟩ (HB.grown hgrow hbase (fun k hk => (World.ownsRow.lt hown k hk).1))
  intro u hu
  rcases List.mem_append.1 hu with hu | hu
  · exact h1 u hu
  · exact strCells_one t u hu

/-- A row of so many bytes is told. -/
def Made (n : Nat) (w : World) (e : Ending) (w' : World) : Prop := ∃ v, e = .returned v ∧ Row w' w.heap.size v n ∧ Below w.heap.size w w'

theorem row_one (w : World) (base : Nat) (hb : base ≤ w.heap.size) (x : Value) (hx : x.oneCell' = true) : Row (w.alloc (.cells #[x] 5)) base (.slice (some ⟨w.heap.size, 0, none⟩) 1 1) 1 := by
  have h2 := World.ownsRow_lit (base := base) (e := 5) (size := 1) w #[x] 1 hb (by simp [maxLen]) (by simp)
  exact ⟨_, h2, by simpa using hx⟩
theorem Row.mono {w : World} {B B' : Nat} {v : Value} {n : Nat} (h : Row w B v n) (hb : B' ≤ B) : Row w B' v n := by
  obtain ⟨xs, h1, h2⟩ := h
  refine ⟨xs, ⟨h1.1, ?_⟩, h2⟩
  rcases h1.2 with h | ⟨g, cap, cur, e, hg, r⟩
  · exact .inl h
  · exact .inr ⟨g, cap, cur, e, Nat.le_trans hb hg, r⟩
theorem Row.below {w w1 : World} {B : Nat} {v : Value} {n : Nat} (h : Row w B v n) (hb : Below w.heap.size w w1) : Row w1 B v n := by
  obtain ⟨xs, ⟨h1, h2⟩, h3⟩ := h
  refine ⟨xs, ⟨h1, ?_⟩, h3⟩
  rcases h2 with h2 | ⟨g, cap, cur, rfl, hbg, hg, r⟩
  · exact .inl h2
  · exact .inr ⟨g, cap, cur, rfl, hbg, on hg hb, r⟩


theorem row_zero (w : World) (base : Nat) (hb : base ≤ w.heap.size) : Row (w.alloc (.cells #[] 5)) base (.slice (some ⟨w.heap.size, 0, none⟩) 0 0) 0 := by
  have h2 := World.ownsRow_lit (base := base) (e := 5) (size := 1) w #[] 0 hb (by simp [maxLen]) (by simp)
  exact ⟨_, h2, by simp⟩

set_option maxRecDepth 100000 in
theorem len_calls (x : Int) (h : x = 0 ∨ x = 1 ∨ x = 2) (w : World) : Calls Tryz.prog 154 #[.int .u64 x] w fun e w' => e = .returned (.int .i64 x) ∧ w = w' := by
  rcases h with rfl | rfl | rfl
  all_goals
    go_enter Tryz.func154, Tryz.ntmps154
    go_wp2
    go_ret
    exact ⟨by kernel_rfl, rfl⟩

set_option maxRecDepth 100000 in
theorem groups_calls (x : Int) (h : x = 0 ∨ x = 1 ∨ x = 2) (w : World) : Calls Tryz.prog 93 #[.int .u64 x] w fun e w' => e = .returned (.int .i64 1) ∧ w = w' := by
  rcases h with rfl | rfl | rfl
  all_goals
    go_enter Tryz.func93, Tryz.ntmps93
    go_wp2_with fail
    refine (len_calls _ (by omega) _).mono ?_
    rintro e w1 ⟨rfl, rfl⟩
    go_wp2
    go_ret
    exact ⟨rfl, rfl⟩

theorem wrap_u64 (x : Int) (h : x = 0 ∨ x = 1 ∨ x = 2) : IntKind.u64.wrap x = x := by rcases h with rfl | rfl | rfl <;> rfl

set_option maxRecDepth 100000 in
theorem short_calls (w : World) (B k : Nat) (v : Value) (x : Int) (h : x = 0 ∨ x = 1 ∨ x = 2) (hr : Row w B v k) (hk : k < 100) : Calls Tryz.prog 36 #[v, .int .u64 x] w (Made (k + 1) w) := by
  have hB := (Below.refl w.heap.size w).alloc (Nat.le_refl _) (.cells #[] 5)
  have HR := Aside1.mk (hr.below ((Below.refl w.heap.size w).alloc (Nat.le_refl _) (.cells #[] 5)))
  have HO := Aside1.mk (row_zero w w.heap.size (Nat.le_refl _))
  have HB := Aside1.mk hB
  have hs : w.heap.size ≤ (w.alloc (.cells #[] 5)).heap.size := by simp
  clear hr hB
  go_enter Tryz.func36, Tryz.ntmps36
  go_wp2_with (at_builtin; refine appRow (w0 := w) w.heap.size B rfl (.tmp 7) (.tmp 8) rfl _ _ 0 k rfl rfl HO.out HR.out HB.out hs (by omega) ?_; intro v1 w1 ho hb; have HO1 := Aside1.mk ho; have HB1 := Aside1.mk hb; have hs1 := hb.size; clear ho hb)
  refine (groups_calls _ h _).mono ?_
  rintro e w2 ⟨rfl, rfl⟩
  clear HO HR HB hs
  go_wp2_with fail
  refine wp_loop_rounds 1 ?_
  rw [rounds_succ]
  go_wp2_with (at_builtin; refine app1 (w0 := w) w.heap.size rfl (.tmp 25) (.tmp 28) rfl _ _ (0 + k) rfl rfl rfl HO1.out HB1.out hs1 (by omega) ?_; intro v2 w2 ho hb; have HO2 := Aside1.mk ho; have HB2 := Aside1.mk hb; clear ho hb)
  go_ret
  refine ⟨_, rfl, ?_, HB2.out⟩
  have := HO2.out
  rwa [Nat.zero_add] at this

set_option maxRecDepth 100000 in
theorem text_calls (w : World) (B k : Nat) (v : Value) (hr : Row w B v k) (hk : k < 100) : Calls Tryz.prog 35 #[v, .string { data := #[] }] w (Made (k + 1) w) := by
  have HR := Aside1.mk hr
  clear hr
  go_enter Tryz.func35, Tryz.ntmps35
  go_wp2_with fail
  refine (short_calls _ B k v 0 (.inl rfl) HR.out hk).mono ?_
  rintro e w1 ⟨v, rfl, hr, hb⟩
  have HO1 := Aside1.mk hr
  have HB1 := Aside1.mk hb
  have hs1 := hb.size
  clear hr hb
  go_wp2_with (at_builtin; refine appStr (w0 := w) w.heap.size rfl (.tmp 9) (.tmp 10) rfl _ (k + 1) { data := #[] } rfl rfl HO1.out HB1.out hs1 (by show k + 1 + 0 < 1000; omega) ?_; intro v2 w2 ho hb; have HO2 := Aside1.mk ho; have HB2 := Aside1.mk hb; clear ho hb)
  go_ret
  exact ⟨_, rfl, HO2.out, HB2.out⟩

/-- So many bytes are told. -/
def Bytes (n : Nat) (w : World) (e : Ending) (w' : World) : Prop := ∃ v B, e = .returned v ∧ Row w' B v n ∧ Below w.heap.size w w'

set_option maxRecDepth 100000 in
theorem shorts_calls (w : World) (B k b : Nat) (v : Value) (xs : List Int) (hx : ∀ x ∈ xs, x = 0 ∨ x = 1 ∨ x = 2) (hb : w.heap[b]? = some (.cells (xs.map (Value.int .i64)).toArray 3 (0, 0))) (hr : Row w B v k) (hk : k + xs.length < 100) :
    Calls Tryz.prog 107 #[v, .slice (some ⟨b, 0, none⟩) xs.length xs.length] w (Bytes (k + xs.length) w) := by
  have HR := Aside1.mk hr
  have HX := Aside1.mk hx
  have HG := Aside1.mk hb
  have hlt := (Array.getElem?_eq_some_iff.1 hb).1
  clear hr hx hb
  go_enter Tryz.func107, Tryz.ntmps107
  go_wp2
  go_loopw [0, 9] (fun v0 v9 wr => ∃ (j : Nat), v9 = .int .i64 (j : Int) ∧ j ≤ xs.length ∧ Aside1 (∃ B', Row wr B' v0 (k + j)) ∧ Aside1 (Below w.heap.size w wr)) (fun _ u _ => xs.length - (intOf u).toNat)
  case atStart => exact ⟨0, rfl, Nat.zero_le _, ⟨B, HR.out⟩, ⟨Below.refl _ _⟩⟩
  case round =>
    obtain ⟨j, rfl, hj, HO, HB⟩ := hrel
    obtain ⟨wo, rfl⟩ : ∃ wo : World, wo = wr := ⟨_, rfl⟩
    by_cases hjl : j < xs.length
    · have hc0 : wo.cell? ⟨b, j, none⟩ = some (.int .i64 (xs.getD j 0)) := by
        rw [cell_of_row wo b j _ 3 (0, 0) (keep HB.out HG.out hlt)]
        simp [hjl]
      have hsm := HX.out (xs.getD j 0) (by simp [hjl])
      generalize xs.getD j 0 = x at *
      have HS := Aside1.mk hsm
      clear hsm
      have hw := wrap_u64 x HS.out
      obtain ⟨B', hro⟩ := HO.out
      have HRO := Aside1.mk hro
      clear hro HO
      go_wp2_with fail
      refine (short_calls _ B' (k + j) _ x HS.out HRO.out (by omega)).mono ?_
      rintro e w2 ⟨v2, rfl, hr2, hb2⟩
      have HB2 := Aside1.mk (HB.out.trans (hb2.mono HB.out.size))
      have HR2 : Aside1 (∃ B', Row w2 B' v2 (k + (j + 1))) := ⟨_, hr2⟩
      clear hr2 hb2 HB HRO hc0 hw
      go_wp2
      go_roundw
      case rel => exact ⟨j + 1, by go_num, by omega, HR2, HB2⟩
      case measure => simp [intOf]; omega
    · obtain rfl : j = xs.length := by omega
      go_wp2
      go_ret
      obtain ⟨B', hro⟩ := HO.out
      exact ⟨_, B', rfl, hro, HB.out⟩
end Go.Proofs.YtkemhdbnkpblpaaGreatDoor.UpC
