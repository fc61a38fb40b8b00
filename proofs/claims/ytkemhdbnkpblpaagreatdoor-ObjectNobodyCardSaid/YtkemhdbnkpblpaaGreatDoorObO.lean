/- A store of no sets has no buckets: at any input; and a row's contract that is handed the world's shape beside what the row lists. -/
import Derived.Test.YtkemhdbnkpblpaaGreatDoorObN
import Derived.Handed
import Derived.HandedShaped
import Derived.Shelf.Vars
namespace Go.Proofs.YtkemhdbnkpblpaaGreatDoor.ObO
open Go.RowKit
open Go.Proofs.YtkemhdbnkpblpaaGreatDoor.ObC (Lib0)
set_option linter.unusedVariables false
set_option linter.unusedSimpArgs false
set_option linter.constructorNameAsVariable false

theorem cell_slice {W : World} {r : Reach} {base : Nat} {v : Value} (h : Cell.okWide Tryz.prog W r base 22 v) : ∃ A n c, v = .slice A n c := by
  simp only [Cell.okWide, Tryz.underlying22] at h
  cases v <;> simp_all [Cell.ok, Tryz.underlying22]

set_option maxRecDepth 100000 in
/-- An input's first cell is a slice. -/
theorem input {W : World} {r : Reach} {base : Nat} {cs : Array Value} (h : Value.okWide Tryz.prog W r base 25 (.agg cs)) : ∃ A kn kc a1 a2 a3, cs = #[.slice A kn kc, a1, a2, a3] := by
  have ht : Tryz.prog.cellTypes Tryz.prog.depth 25 = some [22, 9, 9, 23] := by kernel_rfl
  have h3 : Tryz.prog.cellsOf 25 = 4 := by kernel_rfl
  simp only [Value.okWide, Tryz.underlying25] at h
  obtain ⟨cs', he, hs, ts, hts, hn, hr⟩ := h
  cases he
  rw [ht] at hts
  cases hts
  rw [h3] at hs
  rcases cs with ⟨l⟩
  rcases l with _ | ⟨a, l⟩; · simp at hs
  rcases l with _ | ⟨b, l⟩; · simp at hs
  rcases l with _ | ⟨c, l⟩; · simp at hs
  rcases l with _ | ⟨d, l⟩; · simp at hs
  rcases l with _ | ⟨e, l⟩
  · obtain ⟨u0, e0, k0⟩ := hr 0 a rfl
    cases e0
    obtain ⟨A, kn, kc, rfl⟩ := cell_slice k0
    exact ⟨A, kn, kc, _, _, _, rfl⟩
  · simp at hs

/-- The library's own number is one, in any world that fits. -/
theorem lib0 {W : World} (h : W.ShapedOpen Tryz.prog) : Lib0 W :=
  Go.Proofs.cell_of_shapedOpen_int (g := 0) (t := 3) (zero := #[.int .i64 0]) (k := .i64) h (of_decide_eq_true (by kernel_rfl)) (by kernel_rfl) rfl (by kernel_rfl) (by kernel_rfl) Tryz.underlying3

set_option maxRecDepth 100000 in
/-- The law at any input. -/
theorem law (s : ByteArray) (hm : s.size ≤ 140737488351232) (cs : Array Value) (id : Int) {W : World} {r : Reach} {base : Nat} (h : Value.okWide Tryz.prog W r base 25 (.agg cs)) (w : World) (hsh : w.ShapedOpen Tryz.prog) :
    Calls Tryz.prog 4 #[.string s, .agg cs, .int .i64 id] w fun e w' => e = .returned (.bool true) ∧ Below w.heap.size w w' := by
  obtain ⟨A, kn, kc, a1, a2, a3, rfl⟩ := input h
  by_cases hs : s.size ≤ 100
  · exact ObN.law_small s A kn kc a1 a2 a3 id hs w (lib0 hsh)
  · exact ObN.law_great s A kn kc a1 a2 a3 id (by omega) hm w (lib0 hsh)

/-- As 'returnsInHanded_of_change_and', the world's shape handed on. -/
theorem handed {H : Type} {enc : TypeId × Value → H} {a : Assume} {C : Checked} {os : Os} {f : FuncId} {fn : Func} {s : ChangeSpec} {conds : List PathCond} {apart fresh handsOn again : Bool} {X : World → Array Value → Prop}
    (hX : ∀ (w w' : World) (args : Array Value), w.heap = w'.heap → X w args → X w' args)
    (own : ownKnob C.prog.godebug = none) (started : os.Started) (noInit : C.prog.inits.idxOf? f = none) (hfn : C.prog.funcs[f]? = some fn)
    (witness : ∃ (w : World) (tape : Tape) (i : Input), w.os = os ∧ (w.forCall tape i).Shaped C.prog ∧ i.vars = [] ∧ Input.okWide C.prog (w.forCall tape i) .any w.heap.size f i ∧
      ((s.pre enc C.prog fn conds apart (w.forCall tape i).memory i.args ∧ X (w.forCall tape i).memory i.args) ∧ sizedMet enc C.prog fn (OpenSpec.ofChange s) apart (w.forCall tape i).memory i.args) ∧ a.holds C.prog (lone (Frame.enter C.prog f i.args .normal) [] (w.forCall tape i)))
    (contract : ∀ (W : World) (base : Nat) (args : Array Value) (ds gs : List (DataW H)) (before : List MemPlace),
      (∀ (j : Nat) t v, fn.params[j]? = some t → args[j]? = some v → Value.okWide C.prog W .any base t v) →
      DataW.Whole enc C.prog fn.params.toList s.vars apart W args.toList ds gs before →
      conds.all (PathCond.test C.prog ⟨fn.params.toList, ds, s.plain.varTypes C.prog, gs⟩) = true →
      (DataW.weightsEach C.prog (fn.params.toList ++ s.plain.varTypes C.prog) (ds ++ gs)).all (· ≤ reachBytes) = true → X W args → W.ShapedOpen C.prog →
      a.holds C.prog (lone (Frame.enter C.prog f args .normal) [] W) →
      Calls C.prog f args W fun e W' => ∃ v, e = .returned v ∧ s.post enc C.prog fn apart fresh handsOn again W args v W') :
    ReturnsInHanded a C os f .any (fun w args => (s.pre enc C.prog fn conds apart w args ∧ X w args) ∧ sizedMet enc C.prog fn (OpenSpec.ofChange s) apart w args) (s.post enc C.prog fn apart fresh handsOn again) := by
  refine returnsInHanded_of_calls own started noInit witness ?_
  intro w tape i _ hsh _ hok hpre hholds
  obtain ⟨_, _, _, fn', hfn', _, _, _, _, hval⟩ := hok
  have e : fn' = fn := Option.some.inj (hfn'.symm.trans hfn)
  subst e
  obtain ⟨⟨⟨ds, gs, before, hw, hc⟩, hx⟩, hz⟩ := hpre
  have hw' := DataW.Whole.of_heap (w' := w.forCall tape i) (by rfl) hw
  refine (contract (w.forCall tape i) w.heap.size i.args ds gs before hval hw' hc (hz.weights hw) (hX _ _ _ (by rfl) hx) hsh hholds).mono fun e W' ⟨v, he, hp⟩ => ?_
  subst he
  exact ChangeSpec.post_blind hp
end Go.Proofs.YtkemhdbnkpblpaaGreatDoor.ObO
