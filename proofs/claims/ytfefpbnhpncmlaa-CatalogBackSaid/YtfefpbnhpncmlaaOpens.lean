/- What an argument that can be read as data looks like in memory, kind by kind: general lemmas, no condition. -/
import Derived.Test.YtfefpbnhpncmlaaWMore
import Derived.OpenShut
import Derived.Deep.Slices
namespace Go.Proofs.YtfefpbnhpncmlaaW.Opens
open Go.RowKit Go.Proofs.YtfefpbnhpncmlaaW.PrintWords
set_option linter.unusedVariables false

/-- Whatever of type t can be read as data is of kind d, and G. -/
def Opens {α : Type} (P : Program) (t : TypeId) (d : Kd α) (G : α → Prop) : Prop :=
  ∀ (H : Type) (enc : TypeId × Value → H) (w : World) (base : Nat) (spare : Nat → Bool) (held : Bool) (n : Nat) (cs : List Value) (x : DataW H × List MemPlace),
    DataW.trod enc P w base spare held n t cs = some x → ∃ a, d.K w a cs ∧ G a

theorem opens_int {P : Program} {t : TypeId} {k : IntKind} (ht : P.underlying t = some (.int k)) : Opens P t (Kd.int k) (fun n => (Lit.int k n).wf = true) := by
  intro H enc w base spare held n cs x h
  obtain ⟨m, rfl, _, hw⟩ := DataW.trod_int ht h
  exact ⟨m, rfl, hw⟩

theorem opens_bool {P : Program} {t : TypeId} (ht : P.underlying t = some .bool) : Opens P t Kd.bool (fun _ => True) := by
  intro H enc w base spare held n cs x h
  obtain ⟨m, rfl, _⟩ := DataW.trod_bool ht h
  exact ⟨m, rfl, trivial⟩

theorem opens_string {P : Program} {t : TypeId} (ht : P.underlying t = some .string) : Opens P t Kd.string (fun s => s.size ≤ maxLen) := by
  intro H enc w base spare held n cs x h
  obtain ⟨s, rfl, _, hs⟩ := DataW.trod_string ht h
  exact ⟨s, rfl, hs⟩

theorem add_add (a : Addr) (i j : Nat) : (a.add i).add j = a.add (i + j) := Go.Deep.add_add a i j

theorem opens_slice {α : Type} {P : Program} {t e : TypeId} {d : Kd α} {G : α → Prop} (ht : P.underlying t = some (.slice e)) (hs : P.cellsOf e = d.sz) (he : Opens P e d G) :
    Opens P t (Kd.slice e d) (fun l => ∀ x ∈ l, G x) := by
  intro H enc w base spare held n cs x h
  rcases Go.Deep.open_slice ht h with ⟨rfl, rfl⟩ | ⟨a, len, cap, m, k, D, Pl, rfl, hb, hl, hm, hmm, rfl, hx⟩
  · exact ⟨[], ⟨none, 0, rfl, Nat.le_refl _, Kd.C_nil _ _⟩, by simp⟩
  · have hlm : len ≤ m := by rw [hmm]; split <;> omega
    have each : ∀ i, i < len → ∃ y : α, (∃ c, c.length = d.sz ∧ d.K w y c ∧ ∀ (j : Nat) (u : Value), c[j]? = some u → w.cell? (a.add (i * d.sz + j)) = some u) ∧ G y := by
      intro i hi
      obtain ⟨cs', h1, h2⟩ := hx i (by omega)
      rw [hs] at h1
      obtain ⟨_, hlen, hcell⟩ := World.cells?_some h1
      obtain ⟨y, hy, hg⟩ := he H enc w base spare held k cs' _ h2
      refine ⟨y, ⟨cs', hlen, hy, fun j u hu => ?_⟩, hg⟩
      have hj : j < d.sz := by
        have := (List.getElem?_eq_some_iff.1 hu).1
        omega
      have := hcell j hj
      rw [add_add] at this
      rw [this]
      exact hu
    by_cases h0 : len = 0
    · subst h0
      exact ⟨[], ⟨some a, cap, rfl, Nat.zero_le _, rfl, by simp, fun h => absurd h (Nat.lt_irrefl 0)⟩, by simp⟩
    · have : Nonempty α := ⟨(each 0 (by omega)).choose⟩
      have : Inhabited α := Classical.inhabited_of_nonempty this
      obtain ⟨f, hf⟩ := Go.Deep.choose_lt each
      refine ⟨(List.range len).map f, ⟨some a, cap, by simp, by simpa using hl, by simp, by unfold maxLen at hm; simp; omega, fun _ => ⟨a, rfl, ?_⟩⟩, ?_⟩
      · intro j p hj
        have hjl : j < len := by have := (List.getElem?_eq_some_iff.1 hj).1; simpa using this
        have : f j = p := by
          rw [List.getElem?_map, List.getElem?_range hjl] at hj
          simpa using hj
        subst this
        exact (hf j hjl).1
      · intro x hx
        obtain ⟨i, hi, rfl⟩ := List.mem_map.1 hx
        exact (hf i (List.mem_range.1 hi)).2

/-- A struct's fields from one on, that lie side by side. -/
def OpensF {α : Type} (P : Program) (fs : List Field) (off : Nat) (d : Kd α) (G : α → Prop) : Prop :=
  ∀ (H : Type) (enc : TypeId × Value → H) (w : World) (base : Nat) (spare : Nat → Bool) (held : Bool) (n : Nat) (cs : List Value) (xs : List (DataW H × List MemPlace)),
    xs.length = fs.length → cs.length = off + d.sz → (∀ (i : Nat) (f : Field), fs[i]? = some f → DataW.trod enc P w base spare held n f.type ((cs.drop f.offset).take (P.cellsOf f.type)) = xs[i]?) → ∃ a, d.K w a (cs.drop off) ∧ G a

theorem opensF_last {α : Type} {P : Program} {f : Field} {off : Nat} {d : Kd α} {G : α → Prop} (o : f.offset = off) (s : P.cellsOf f.type = d.sz) (h : Opens P f.type d G) : OpensF P [f] off d G := by
  intro H enc w base spare held n cs xs hxl hcl hf
  have g := hf 0 f rfl
  rw [List.getElem?_eq_getElem (by rw [hxl]; simp)] at g
  obtain ⟨y, k, q⟩ := h _ _ _ _ _ _ _ _ _ g
  refine ⟨y, ?_, q⟩
  have : (cs.drop off).take d.sz = cs.drop off := List.take_of_length_le (by simp; omega)
  rwa [o, s, this] at k

theorem opensF_cons {α β : Type} {P : Program} {f : Field} {fs : List Field} {off : Nat} {d0 : Kd α} {d1 : Kd β} {G0 : α → Prop} {G1 : β → Prop} (o : f.offset = off) (s : P.cellsOf f.type = d0.sz) (h0 : Opens P f.type d0 G0) (h1 : OpensF P fs (off + d0.sz) d1 G1) :
    OpensF P (f :: fs) off (Kd.pair d0 d1) (fun x => G0 x.1 ∧ G1 x.2) := by
  intro H enc w base spare held n cs xs hxl hcl hf
  have hcl' : cs.length = off + (d0.sz + d1.sz) := hcl
  have g := hf 0 f rfl
  rw [List.getElem?_eq_getElem (by rw [hxl]; simp)] at g
  obtain ⟨y, k, q⟩ := h0 _ _ _ _ _ _ _ _ _ g
  match xs, hxl with
  | x :: xs, hxl =>
    obtain ⟨z, k1, q1⟩ := h1 H enc w base spare held n cs xs (by simpa using hxl) (by omega) (fun i f hi => by simpa using hf (i + 1) f (by simpa using hi))
    refine ⟨(y, z), ⟨_, _, ?_, k, k1⟩, q, q1⟩
    rw [o, s, ← List.drop_drop, List.take_append_drop]

theorem opens_struct {α : Type} {P : Program} {t : TypeId} {fs : Array Field} {d : Kd α} {G : α → Prop} (ht : P.underlying t = some (.struct fs)) (hs : P.cellsOf t = d.sz) (h : OpensF P fs.toList 0 d G) : Opens P t d G := by
  intro H enc w base spare held n cs x hx
  obtain ⟨xs, k, _, _, hl, hxl, hf⟩ := DataW.trod_struct ht hx
  obtain ⟨a, hk, hg⟩ := h H enc w base spare held k cs xs (by simpa using hxl) (by omega) (fun i f hi => hf i f (by simpa using hi))
  exact ⟨a, by simpa using hk, hg⟩

theorem opens_iso {α β : Type} {P : Program} {t : TypeId} {d : Kd α} {G : α → Prop} (f : β → α) (g : α → β) (hfg : ∀ a, f (g a) = a) (h : Opens P t d G) : Opens P t (Kd.iso d f) (fun y => G (f y)) := by
  intro H enc w base spare held n cs x hx
  obtain ⟨a, hk, hg⟩ := h H enc w base spare held n cs x hx
  exact ⟨g a, by show d.K w (f (g a)) cs; rw [hfg]; exact hk, by show G (f (g a)); rw [hfg]; exact hg⟩

theorem opens_mono {α : Type} {P : Program} {t : TypeId} {d : Kd α} {G G' : α → Prop} (h : Opens P t d G) (hg : ∀ a, G a → G' a) : Opens P t d G' := by
  intro H enc w base spare held n cs x hx
  obtain ⟨a, hk, h2⟩ := h H enc w base spare held n cs x hx
  exact ⟨a, hk, hg a h2⟩

end Go.Proofs.YtfefpbnhpncmlaaW.Opens
