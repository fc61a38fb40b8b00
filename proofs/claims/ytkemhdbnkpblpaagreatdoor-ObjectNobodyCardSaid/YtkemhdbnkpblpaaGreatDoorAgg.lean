/- Whole aggregates in memory, read and laid as one: general lemmas, no condition. -/
import Derived.Below
import Derived.WalkKit
import Derived.WalkSpells
import Derived.WalkSmall
import Derived.KernelRfl
import Derived.Laws.Rows
import Derived.Laws.Tables
import Derived.Deep.WholeRow
import Derived.OwnWalk
namespace Go.Proofs.YtkemhdbnkpblpaaGreatDoor.Agg
open Go.RowKit
set_option linter.unusedVariables false
variable {P : Program}

/-- What the walk is kept from. -/
structure Aside1 (p : Prop) : Prop where mk :: (out : p)

theorem setRow_same (w : World) (g : Nat) (cs : Array Value) (t : TypeId) (fr : Nat × Nat) (hg : w.heap[g]? = some (.cells cs t fr)) : w.setRow g cs = w := by
  unfold World.setRow
  refine Eq.trans (b := ({ w with heap := w.heap } : World)) ?_ rfl
  congr 1
  apply Array.ext_getElem?
  intro i
  rw [Array.getElem?_modify]
  by_cases h : g = i
  · subst h
    rw [if_pos rfl, hg]
    rfl
  · rw [if_neg h]

theorem heap_new (w : World) (o : Obj) : (w.alloc o).heap[w.heap.size]? = some o := heap_alloc_last w o

theorem heap_old (w : World) (o : Obj) (i : Nat) (h : i < w.heap.size) : (w.alloc o).heap[i]? = w.heap[i]? := by
  show (w.heap.push o)[i]? = w.heap[i]?
  rw [Array.getElem?_push, if_neg (Nat.ne_of_lt h)]

/-- A block behind more blocks, draws and calls. -/
theorem keep {w w1 : World} {B g : Nat} {o : Obj} (hb : Below B w w1) (hg : w.heap[g]? = some o) (h : g < B) : w1.heap[g]? = some o := by rw [hb.block g h]; exact hg

theorem on {w w1 : World} {g : Nat} {o : Obj} (hg : w.heap[g]? = some o) (hb : Below w.heap.size w w1) : w1.heap[g]? = some o := keep hb hg (Array.getElem?_eq_some_iff.1 hg).1
theorem onAlloc {w : World} {g : Nat} {o : Obj} (hg : w.heap[g]? = some o) (o' : Obj) : (w.alloc o').heap[g]? = some o := (heap_old _ _ _ (Array.getElem?_eq_some_iff.1 hg).1).trans hg
/-- A new block, behind a call. -/
theorem newOn {w w1 : World} (o : Obj) (hb : Below (w.alloc o).heap.size (w.alloc o) w1) : w1.heap[w.heap.size]? = some o := on (heap_new w o) hb

theorem wpList_store_same {ops : Array Oper} {rest : List Oper} {o : Oper} {a : Act} {w : World} {Q : Exit → Act → World → Prop} (hgd : o.guard = none) (ty : TypeId) (x y : Operand) (ho : o.op = .store ty x y)
    (g : Nat) (cs : Array Value) (hx : a.eval x = .pointer (some ⟨g, 0, none⟩)) (hy : a.eval y = .agg cs) (t : TypeId) (hg : w.heap[g]? = some (.cells cs t (0, 0)))
    (hi : (P.info? ty).map (·.size) = some cs.size) (h1 : cs.all (·.oneCell') = true) (h : wpList P ops Q rest (a.put o.dst undef) w) : wpList P ops Q (o :: rest) a w := by
  refine wpList_plain hgd fun K hK => ?_
  have hs := setRow_same w g cs t (0, 0) hg
  refine wp_store_row ty x y ho g cs hx hy t cs hg hi rfl h1 ?_
  rw [hs]
  exact hK _ _ h

theorem gate_on {ops : Array Oper} {rest : List Oper} {o : Oper} {a : Act} {w : World} {Q : Exit → Act → World → Prop} (hw : Region.wanted o (yielded ops a.tmps) = true) (h : wpList P ops Q ({ o with guard := none } :: rest) a w) : wpList P ops Q (o :: rest) a w := by
  have h1 : Region.wanted { o with guard := none } (yielded ops a.tmps) = true := rfl
  unfold wpList at h ⊢
  rw [if_pos h1] at h
  rw [if_pos hw]
  exact h

section
variable {fn : Func} {w : World} {g : Nat} {t ty p q : Nat} {cs : Array Value} {fr : Nat × Nat} {d : TypeDesc} (tmps : Array Value)
theorem res_ct (h : fn.results = #[.cell p ty, .tmp q]) (hp : tmps.getD p undef = .pointer (some ⟨g, 0, none⟩)) (hg : w.heap[g]? = some (.cells cs t fr))
    (hu : P.underlying ty = some d) (hd : (match d with | .struct _ | .array _ _ => true | _ => false) = true) (hi : (P.info? ty).map (·.size) = some cs.size) :
    (results fn tmps).run P w = .ok (.tuple #[.agg cs, tmps.getD q undef]) w := by
  have hp' : tmps[p]?.getD undef = .pointer (some ⟨g, 0, none⟩) := by simpa using hp
  simp [results, h, hp', asAddr, run_loadVar_row w g t ty cs fr d hg hu hd hi]
end
end Go.Proofs.YtkemhdbnkpblpaaGreatDoor.Agg
