/- Own texts, one behind the other: EntL EntA EntB EntC EntD EntE EntF EntG EntH EntI EntJ EntZ EntK. -/
import Derived.Test.YtfefpbnhpncmlaaMC
import Derived.Laws.StructEq
/- Entries as bytes, and as cells: plain laws. -/
namespace Go.Proofs.Ytfefpbnhpncmlaa.EntL
open Go.RowKit Go.Proofs.Ytfefpbnhpncmlaa.CodL Go.Proofs.Ytfefpbnhpncmlaa.CatL Go.Proofs.Ytfefpbnhpncmlaa.PtrE Go.Proofs.Ytfefpbnhpncmlaa.CatV Go.Proofs.Ytfefpbnhpncmlaa.CatR Go.Proofs.YtfefpbnhpncmlaaW.PrintWords
set_option linter.unusedVariables false
set_option linter.unusedSimpArgs false

/-- An entry. -/
structure Ent where
  id : Int
  kind : Int
  owner : Int
  name : ByteArray
  root : Ptr
  dead : Ptr
  born : Int
  prev : Int
  next : Int
  origin : Int
  clones : Int
def PlaceP (p : Ptr) : Prop := p = zeroP ∨ Right p
instance (p : Ptr) : Decidable (PlaceP p) := by unfold PlaceP; exact inferInstance
def Upto (a n : Int) : Prop := a ≤ n ∧ n ≤ 1152921504606846976
instance (a n : Int) : Decidable (Upto a n) := by unfold Upto; exact inferInstance
/-- It is one. -/
structure RightE (e : Ent) : Prop where
  kind : (e.kind = 1 ∧ e.owner = 0) ∨ (e.kind = 2 ∧ Upto 1 e.owner)
  id : Upto 1 e.id
  n0 : 0 < e.name.size
  n1 : e.name.size ≤ 63
  root : PlaceP e.root
  dead : PlaceP e.dead
  born : Upto 0 e.born
  prev : Upto 0 e.prev
  next : Upto 0 e.next
  origin : Upto 0 e.origin
  clones : Upto 0 e.clones
theorem rightE_iff (e : Ent) : RightE e ↔ ((e.kind = 1 ∧ e.owner = 0) ∨ (e.kind = 2 ∧ Upto 1 e.owner)) ∧ Upto 1 e.id ∧ 0 < e.name.size ∧ e.name.size ≤ 63 ∧ PlaceP e.root ∧ PlaceP e.dead ∧ Upto 0 e.born ∧ Upto 0 e.prev ∧ Upto 0 e.next ∧ Upto 0 e.origin ∧ Upto 0 e.clones :=
  ⟨fun h => ⟨h.kind, h.id, h.n0, h.n1, h.root, h.dead, h.born, h.prev, h.next, h.origin, h.clones⟩, fun ⟨a, b, c, d, f, g, h, i, j, k, l⟩ => ⟨a, b, c, d, f, g, h, i, j, k, l⟩⟩
instance (e : Ent) : Decidable (RightE e) := decidable_of_iff _ (rightE_iff e).symm
structure OkE (e : Ent) : Prop where
  root : Ok e.root
  dead : Ok e.dead
/-- Its bytes. -/
def shI (n : Int) : List Int := shortL n.toNat
def textL (s : ByteArray) : List Int := shortL s.size ++ bytesOf s
def entL (e : Ent) : List Int := shI e.id ++ shI e.kind ++ shI e.owner ++ textL e.name ++ ptrL e.root ++ ptrL e.dead ++ shI e.born ++ shI e.prev ++ shI e.next ++ shI e.origin ++ shI e.clones
theorem shI_byt (n : Int) : Byt (shI n) := shortL_byt _
theorem bytesOf_byt (s : ByteArray) : Byt (bytesOf s) := fun x hx => by
  unfold bytesOf at hx
  obtain ⟨b, _, rfl⟩ := List.mem_map.1 hx
  have := b.toNat_lt
  omega
theorem textL_byt (s : ByteArray) : Byt (textL s) := (shortL_byt _).append (bytesOf_byt s)
theorem entL_byt {e : Ent} (h : OkE e) : Byt (entL e) := ((((((((((shI_byt _).append (shI_byt _)).append (shI_byt _)).append (textL_byt _)).append (ptrL_byt h.root)).append (ptrL_byt h.dead)).append (shI_byt _)).append (shI_byt _)).append (shI_byt _)).append (shI_byt _)).append (shI_byt _)
theorem shI_len {n : Int} (h : 0 ≤ n) (h1 : n ≤ 1152921504606846976) : (shI n).length ≤ 10 := glen_ten (n := n.toNat) (by omega)
/-- Its cells. -/
def encE (e : Ent) : Array Value := #[.int .i64 e.id, .int .i64 e.kind, .int .i64 e.owner, .string e.name] ++ encP e.root ++ encP e.dead ++ #[.int .i64 e.born, .int .i64 e.prev, .int .i64 e.next, .int .i64 e.origin, .int .i64 e.clones]
theorem encE_size {e : Ent} (h : OkE e) : (encE e).size = 81 := by simp [encE, encP_size h.root.len, encP_size h.dead.len]
theorem encE_0 (e : Ent) : (encE e)[0]? = some (.int .i64 e.id) := by simp [encE, encP]
theorem encE_1 (e : Ent) : (encE e)[1]? = some (.int .i64 e.kind) := by simp [encE, encP]
theorem encE_2 (e : Ent) : (encE e)[2]? = some (.int .i64 e.owner) := by simp [encE, encP]
theorem encE_3 (e : Ent) : (encE e)[3]? = some (.string e.name) := by simp [encE, encP]
theorem encE_root {e : Ent} (h : OkE e) (j : Nat) (hj : j < 36) : (encE e)[4 + j]? = (encP e.root)[j]? := by
  have h1 := encP_size h.root.len
  have h2 := encP_size h.dead.len
  unfold encE
  rw [Array.getElem?_append_left (by simp [h1, h2]; omega), Array.getElem?_append_left (by simp [h1]; omega), Array.getElem?_append_right (by simp)]
  simp
theorem encE_dead {e : Ent} (h : OkE e) (j : Nat) (hj : j < 36) : (encE e)[40 + j]? = (encP e.dead)[j]? := by
  have h1 := encP_size h.root.len
  have h2 := encP_size h.dead.len
  unfold encE
  rw [Array.getElem?_append_left (by simp [h1, h2]; omega), Array.getElem?_append_right (by simp [h1])]
  congr 1
  simp [h1]
theorem encE_tail {e : Ent} (h : OkE e) (j : Nat) : (encE e)[76 + j]? = (#[Value.int .i64 e.born, .int .i64 e.prev, .int .i64 e.next, .int .i64 e.origin, .int .i64 e.clones] : Array Value)[j]? := by
  have h1 := encP_size h.root.len
  have h2 := encP_size h.dead.len
  unfold encE
  rw [Array.getElem?_append_right (by simp [h1, h2])]
  congr 1
  simp [h1, h2]
theorem encE_one (e : Ent) : (encE e).all (·.oneCell') = true := by
  have h1 := PtrJ.a_enc e.root
  have h2 := PtrJ.a_enc e.dead
  simp only [encE, Array.all_append, Bool.and_eq_true]
  exact ⟨⟨⟨by simp [Value.oneCell'], h1⟩, h2⟩, by simp [Value.oneCell']⟩
def zeroE : Ent := ⟨0, 0, 0, ⟨#[]⟩, zeroP, zeroP, 0, 0, 0, 0, 0⟩
theorem okZeroE : OkE zeroE := ⟨okZero, okZero⟩
end Go.Proofs.Ytfefpbnhpncmlaa.EntL
/- upto, in, place: contracts. -/
namespace Go.Proofs.Ytfefpbnhpncmlaa.EntA
open Go.RowKit Go.Proofs.Ytfefpbnhpncmlaa.EntL Go.Proofs.Ytfefpbnhpncmlaa.CatK Go.Proofs.Ytfefpbnhpncmlaa.PtrB Go.Proofs.Ytfefpbnhpncmlaa.Agg Go.Proofs.Ytfefpbnhpncmlaa.B8 Go.Proofs.Ytfefpbnhpncmlaa.CodL Go.Proofs.Ytfefpbnhpncmlaa.CodA Go.Proofs.Ytfefpbnhpncmlaa.CodB Go.Proofs.Ytfefpbnhpncmlaa.CatL Go.Proofs.Ytfefpbnhpncmlaa.PtrA Go.Proofs.Ytfefpbnhpncmlaa.PtrE Go.Proofs.Ytfefpbnhpncmlaa.PtrF Go.Proofs.Ytfefpbnhpncmlaa.PBaseSigns Go.Proofs.YtfefpbnhpncmlaaW.PrintWords Go.Proofs.YtfefpbnhpncmlaaW.PrintLast Go.Proofs.YtfefpbnhpncmlaaW.PrintMore
set_option linter.unusedVariables false
set_option linter.unusedSimpArgs false

theorem less_calls (n a : Int) (g : Nat) (w : World) (hg : w.cell? ⟨g, 0, none⟩ = some (.int .i64 a)) :
    Calls Try.prog 112 #[.int .i64 n, .pointer (some ⟨g, 0, none⟩)] w fun e w' => e = .returned (.bool (!decide (Upto a n))) ∧ w = w' := by
  obtain ⟨q, hq⟩ : ∃ q : Bool, q = !decide (Upto a n) := ⟨_, rfl⟩
  rw [← hq]
  have HQ := Aside0.mk hq
  clear hq
  by_cases h1 : n < a
  · have hq : q = true := by rw [HQ.out, decide_eq_false (fun h => by have := h.1; omega)]; rfl
    subst hq
    go_enter Try.func112, Try.ntmps112
    go_wp2
    go_ret
    exact ⟨rfl, rfl⟩
  · by_cases h2 : 1152921504606846976 < n
    · have hq : q = true := by rw [HQ.out, decide_eq_false (fun h => by have := h.2; omega)]; rfl
      subst hq
      go_enter Try.func112, Try.ntmps112
      go_wp2
      go_ret
      exact ⟨by simp [h2], rfl⟩
    · have hq : q = false := by rw [HQ.out, decide_eq_true (show Upto a n from ⟨by omega, by omega⟩)]; rfl
      subst hq
      go_enter Try.func112, Try.ntmps112
      go_wp2
      go_ret
      exact ⟨by simp [h2], rfl⟩

/-- Where the first one is that is not so, or -1. -/
def TellsAt (w : World) (a : Int) (l : List Int) (e : Ending) (w' : World) : Prop := ∃ r : Int, e = .returned (.int .i64 r) ∧ (0 ≤ r ↔ ¬ ∀ x ∈ l, Upto a x) ∧ w = w'
set_option maxRecDepth 100000 in
set_option maxHeartbeats 1000000 in
theorem index_calls (A : Option Addr) (c n : Nat) (l : List Int) (hnl : n = l.length) (a : Int) (g : Nat) (w : World) (hg : w.cell? ⟨g, 0, none⟩ = some (.int .i64 a)) (hr : Kd.C (Kd.int .i64) w A n l) (hn : n ≤ c) (hm : n ≤ 1000) :
    Calls Try.prog 127 #[.slice A n c, .func (.func 112) #[] #[.pointer (some ⟨g, 0, none⟩)]] w (TellsAt w a l) := by
  have HR := Aside0.mk hr
  have HN := Aside0.mk hnl
  have HG := Aside0.mk hg
  clear hr hnl hg
  go_enter Try.func127, Try.ntmps127
  go_wp2
  go_loop [8] (fun v8 => ∃ (j : Nat), v8 = .int .i64 (j : Int) ∧ j ≤ n ∧ Aside0 (∀ i, i < j → Upto a (l.getD i 0))) (fun v => n - (intOf v).toNat)
  case atStart => exact ⟨0, rfl, Nat.zero_le _, ⟨fun i h => absurd h (Nat.not_lt_zero _)⟩⟩
  case round =>
    obtain ⟨j, rfl, hj, hall⟩ := hrel
    by_cases hlt : j < n
    · obtain ⟨b, off, rfl, hb, hx⟩ := C_at 0 HR.out (by omega)
      have hxj := hx j hlt
      clear hx
      generalize hP : l.getD j 0 = p at *
      have HP := Aside0.mk hP
      clear hP
      go_wp2_with fail
      refine (less_calls p a g w HG.out).mono ?_
      rintro e w1 ⟨rfl, rfl⟩
      by_cases hrt : Upto a p
      · rw [decide_eq_true hrt]
        have HRT := Aside0.mk hrt
        clear hrt
        go_wp2
        go_round
        case rel => exact ⟨j + 1, by go_num, by omega, ⟨fun i h => by
          rcases Nat.lt_or_ge i j with h' | h'
          · exact hall.out i h'
          · obtain rfl : i = j := by omega
            rw [HP.out]
            exact HRT.out⟩⟩
        case measure => simp [intOf]; omega
      · rw [decide_eq_false hrt]
        have HRT := Aside0.mk hrt
        clear hrt
        go_wp2
        go_ret
        refine ⟨_, rfl, ⟨fun _ h => ?_, fun _ => by omega⟩, rfl⟩
        refine HRT.out ?_
        rw [← HP.out, List.getD, List.getElem?_eq_getElem (by rw [← HN.out]; exact hlt)]
        exact h _ (List.getElem_mem _)
    · obtain rfl : j = n := by omega
      go_wp2
      go_ret
      refine ⟨_, rfl, ⟨fun h => absurd h (by decide), fun h => absurd ?_ h⟩, rfl⟩
      intro p hp
      obtain ⟨i, hi, rfl⟩ := List.getElem_of_mem hp
      have := hall.out i (by rw [HN.out]; exact hi)
      rwa [List.getD, List.getElem?_eq_getElem hi] at this
theorem contains_calls (A : Option Addr) (c n : Nat) (l : List Int) (hnl : n = l.length) (a : Int) (g : Nat) (w : World) (hg : w.cell? ⟨g, 0, none⟩ = some (.int .i64 a)) (hr : Kd.C (Kd.int .i64) w A n l) (hn : n ≤ c) (hm : n ≤ 1000) :
    Calls Try.prog 111 #[.slice A n c, .func (.func 112) #[] #[.pointer (some ⟨g, 0, none⟩)]] w (fun e w' => e = .returned (.bool (!decide (∀ x ∈ l, Upto a x))) ∧ w = w') := by
  have HR := Aside0.mk hr
  have HN := Aside0.mk hnl
  have HG := Aside0.mk hg
  obtain ⟨q, hq⟩ : ∃ q : Bool, q = !decide (∀ x ∈ l, Upto a x) := ⟨_, rfl⟩
  rw [← hq]
  have HQ := Aside0.mk hq
  clear hr hnl hq hg
  go_enter Try.func111, Try.ntmps111
  go_wp2_with fail
  refine (index_calls A c n l HN.out a g w HG.out HR.out hn hm).mono ?_
  rintro e w1 ⟨r, rfl, hi, rfl⟩
  have HI := Aside0.mk hi
  clear hi
  by_cases h0 : r ≥ 0
  · go_wp2
    go_ret
    refine ⟨?_, rfl⟩
    rw [HQ.out, decide_eq_false (HI.out.1 h0)]
    rfl
  · have hd : decide (0 ≤ r) = false := decide_eq_false (by omega)
    go_wp2
    go_ret
    refine ⟨?_, rfl⟩
    have : ∀ x ∈ l, Upto a x := Classical.byContradiction fun h => by have := HI.out.2 h; omega
    rw [HQ.out, decide_eq_true this]
    rfl
theorem upto_calls (a : Int) (A : Option Addr) (c n : Nat) (l : List Int) (hnl : n = l.length) (w : World) (hr : Kd.C (Kd.int .i64) w A n l) (hn : n ≤ c) (hm : n ≤ 1000) :
    Calls Try.prog 74 #[.int .i64 a, .slice A n c] w (fun e w' => e = .returned (.bool (decide (∀ x ∈ l, Upto a x))) ∧ Below w.heap.size w w') := by
  have HB := Aside0.mk (below_alloc (Below.refl w.heap.size w) (.cells #[.int .i64 a] 3))
  have HR := Aside0.mk (Kd.C_below hr HB.out)
  have HN := Aside0.mk hnl
  clear hr hnl
  go_enter Try.func74, Try.ntmps74
  go_wp2_with fail
  refine (contains_calls A c n l HN.out a w.heap.size _ (by go_simp) HR.out hn hm).mono ?_
  rintro e w1 ⟨rfl, rfl⟩
  go_wp2
  go_ret
  exact ⟨by simp, HB.out⟩

theorem in_calls (n a : Int) (w : World) : Calls Try.prog 75 #[.int .i64 n, .int .i64 a] w fun e w' => e = .returned (.bool (decide (Upto a n))) ∧ w = w' := by
  obtain ⟨q, hq⟩ : ∃ q : Bool, q = decide (Upto a n) := ⟨_, rfl⟩
  rw [← hq]
  have HQ := Aside0.mk hq
  clear hq
  by_cases h1 : a ≤ n
  · by_cases h2 : n ≤ 1152921504606846976
    · have hq : q = true := by rw [HQ.out]; exact decide_eq_true ⟨h1, h2⟩
      subst hq
      go_enter Try.func75, Try.ntmps75
      go_wp2
      go_ret
      exact ⟨by simp [h2], rfl⟩
    · have hq : q = false := by rw [HQ.out]; exact decide_eq_false (fun h => h2 h.2)
      subst hq
      go_enter Try.func75, Try.ntmps75
      go_wp2
      go_ret
      exact ⟨by simp [h2], rfl⟩
  · have hq : q = false := by rw [HQ.out]; exact decide_eq_false (fun h => h1 h.1)
    subst hq
    go_enter Try.func75, Try.ntmps75
    go_wp2
    go_ret
    exact ⟨rfl, rfl⟩
theorem place_calls (p : Ptr) (h : Ok p) (w : World) : Calls Try.prog 72 #[.agg (encP p)] w fun e w' => e = .returned (.bool (decide (PlaceP p))) ∧ Below w.heap.size w w' := by
  have g := Aside0.mk (blk_new w (.cells (encP p) 56))
  have HB := Aside0.mk (below_alloc (Below.refl w.heap.size w) (.cells (encP p) 56))
  have hpc := Aside0.mk (pc p h.len)
  have HK := Aside0.mk h
  obtain ⟨q, hq⟩ : ∃ q : Bool, q = decide (PlaceP p) := ⟨_, rfl⟩
  rw [← hq]
  have HQ := Aside0.mk hq
  clear h hq
  go_enter Try.func72, Try.ntmps72
  go_wp2_with (refine load_P1 rfl _ rfl w.heap.size p rfl HK.out g.out ?_)
  refine (none_calls p HK.out.len _).mono ?_
  rintro e w1 ⟨rfl, hb⟩
  have HB1 := Aside0.mk (below_then HB.out HB.out.size hb)
  have g1 := Aside0.mk (blk_below g.out hb)
  clear hb
  by_cases hz : p = zeroP
  · rw [decide_eq_true hz]
    have hq : q = true := by rw [HQ.out]; exact decide_eq_true (.inl hz)
    subst hq
    have HZ := Aside0.mk hz
    clear hz
    go_wp2
    go_ret
    exact ⟨rfl, HB1.out⟩
  · rw [decide_eq_false hz]
    have HZ := Aside0.mk hz
    have hq : q = decide (Right p) := by rw [HQ.out, Bool.eq_iff_iff]; simp [PlaceP, hz]
    subst hq
    clear hz
    go_wp2_with (refine gate_on (by rfl) ?_; dsimp only; refine load_P1 rfl _ rfl w.heap.size p rfl HK.out g1.out ?_)
    refine (right_calls (encP p) p hpc.out _).mono ?_
    rintro e w2 ⟨rfl, hb⟩
    have HB2 := Aside0.mk (below_then HB1.out HB1.out.size hb)
    clear hb
    go_wp2
    go_ret
    exact ⟨rfl, HB2.out⟩
theorem rplace_calls (p : Ptr) (h : Ok p) (w : World) : Calls Try.prog 76 #[.agg (encP p)] w fun e w' => e = .returned (.bool (decide (PlaceP p))) ∧ Below w.heap.size w w' := by
  have g := Aside0.mk (blk_new w (.cells (encP p) 56))
  have HB := Aside0.mk (below_alloc (Below.refl w.heap.size w) (.cells (encP p) 56))
  have hpc := Aside0.mk (pc p h.len)
  have HK := Aside0.mk h
  obtain ⟨q, hq⟩ : ∃ q : Bool, q = decide (PlaceP p) := ⟨_, rfl⟩
  rw [← hq]
  have HQ := Aside0.mk hq
  clear h hq
  go_enter Try.func76, Try.ntmps76
  go_wp2_with (refine load_P1 rfl _ rfl w.heap.size p rfl HK.out g.out ?_)
  refine (RefE.rnone_calls p HK.out _).mono ?_
  rintro e w1 ⟨rfl, hb⟩
  have HB1 := Aside0.mk (below_then HB.out HB.out.size hb)
  have g1 := Aside0.mk (blk_below g.out hb)
  clear hb
  by_cases hz : p = zeroP
  · rw [decide_eq_true hz]
    have hq : q = true := by rw [HQ.out]; exact decide_eq_true (.inl hz)
    subst hq
    have HZ := Aside0.mk hz
    clear hz
    go_wp2
    go_ret
    exact ⟨rfl, HB1.out⟩
  · rw [decide_eq_false hz]
    have HZ := Aside0.mk hz
    have hq : q = decide (Right p) := by rw [HQ.out, Bool.eq_iff_iff]; simp [PlaceP, hz]
    subst hq
    clear hz
    go_wp2_with (refine gate_on (by rfl) ?_; dsimp only; refine load_P1 rfl _ rfl w.heap.size p rfl HK.out g1.out ?_)
    refine (Go.Proofs.Ytfefpbnhpncmlaa.PtrC.rright_calls (encP p) p hpc.out _).mono ?_
    rintro e w2 ⟨rfl, hb⟩
    have HB2 := Aside0.mk (below_then HB1.out HB1.out.size hb)
    clear hb
    go_wp2
    go_ret
    exact ⟨rfl, HB2.out⟩
end Go.Proofs.Ytfefpbnhpncmlaa.EntA
/- Right of an entry, and the document's: contracts. -/
namespace Go.Proofs.Ytfefpbnhpncmlaa.EntB
open Go.RowKit Go.Proofs.Ytfefpbnhpncmlaa.EntL Go.Proofs.Ytfefpbnhpncmlaa.EntA Go.Proofs.Ytfefpbnhpncmlaa.CatK Go.Proofs.Ytfefpbnhpncmlaa.PtrB Go.Proofs.Ytfefpbnhpncmlaa.Agg Go.Proofs.Ytfefpbnhpncmlaa.B8 Go.Proofs.Ytfefpbnhpncmlaa.CodL Go.Proofs.Ytfefpbnhpncmlaa.CodA Go.Proofs.Ytfefpbnhpncmlaa.CodB Go.Proofs.Ytfefpbnhpncmlaa.CatL Go.Proofs.Ytfefpbnhpncmlaa.PtrA Go.Proofs.Ytfefpbnhpncmlaa.PtrE Go.Proofs.Ytfefpbnhpncmlaa.PtrF Go.Proofs.Ytfefpbnhpncmlaa.PBaseSigns Go.Proofs.YtfefpbnhpncmlaaW.PrintWords Go.Proofs.YtfefpbnhpncmlaaW.PrintLast Go.Proofs.YtfefpbnhpncmlaaW.PrintMore
set_option linter.unusedVariables false
set_option linter.unusedSimpArgs false

/-- An entry's cells that are no pointer's. -/
structure EC (W : World) (g : Nat) (e : Ent) : Prop where
  x0 : W.cell? ⟨g, 0, none⟩ = some (.int .i64 e.id)
  x1 : W.cell? ⟨g, 1, none⟩ = some (.int .i64 e.kind)
  x2 : W.cell? ⟨g, 2, none⟩ = some (.int .i64 e.owner)
  x3 : W.cell? ⟨g, 3, none⟩ = some (.string e.name)
  x6 : W.cell? ⟨g, 76, none⟩ = some (.int .i64 e.born)
  x7 : W.cell? ⟨g, 77, none⟩ = some (.int .i64 e.prev)
  x8 : W.cell? ⟨g, 78, none⟩ = some (.int .i64 e.next)
  x9 : W.cell? ⟨g, 79, none⟩ = some (.int .i64 e.origin)
  x10 : W.cell? ⟨g, 80, none⟩ = some (.int .i64 e.clones)
  root : W.rangeAt g 4 (encP e.root).toList
  dead : W.rangeAt g 40 (encP e.dead).toList
theorem ec_of {W : World} {g t : Nat} {e : Ent} (h : W.heap[g]? = some (.cells (encE e) t (0, 0))) (hk : OkE e) : EC W g e := by
  have c : ∀ i, W.cell? ⟨g, i, none⟩ = (encE e)[i]? := fun i => cell_of_row _ _ i _ t (0, 0) h
  refine ⟨(c 0).trans (encE_0 e), (c 1).trans (encE_1 e), (c 2).trans (encE_2 e), (c 3).trans (encE_3 e), (c 76).trans (encE_tail hk 0), (c 77).trans (encE_tail hk 1), (c 78).trans (encE_tail hk 2), (c 79).trans (encE_tail hk 3), (c 80).trans (encE_tail hk 4), fun j v hj => ?_, fun j v hj => ?_⟩
  · have h36 : j < 36 := by have := (List.getElem?_eq_some_iff.1 hj).1; rw [enc_len hk.root] at this; exact this
    rw [c (4 + j), encE_root hk j h36]
    simpa using hj
  · have h36 : j < 36 := by have := (List.getElem?_eq_some_iff.1 hj).1; rw [enc_len hk.dead] at this; exact this
    rw [c (40 + j), encE_dead hk j h36]
    simpa using hj
/-- A new block of numbers, read. -/
theorem Ci_new (w : World) (c : List Int) (t : TypeId) (n : Nat) (hn : n = w.heap.size) (hc : c.length ≤ 9223372036854775807) : Kd.C (Kd.int .i64) (w.alloc (.cells (c.map (Value.int .i64)).toArray t)) (some ⟨n, 0, none⟩) c.length c := by
  subst hn
  refine ⟨rfl, hc, fun _ => ⟨_, rfl, fun j p hj => ⟨[.int .i64 p], rfl, rfl, fun i u hu => ?_⟩⟩⟩
  match i with
  | 0 =>
    simp only [show (Kd.int .i64).sz = 1 from rfl, Nat.mul_one, Nat.add_zero]
    rw [show (⟨w.heap.size, 0, none⟩ : Addr).add j = ⟨w.heap.size, j, none⟩ from by rw [add_at]; simp]
    simp only [World.cell?_alloc_new]
    simp only [List.getElem?_cons_zero, Option.some.injEq] at hu
    subst hu
    simp [hj]
  | i + 1 => simp at hu

set_option maxRecDepth 100000 in
set_option maxHeartbeats 2000000 in
theorem rightE_calls (e : Ent) (hk : OkE e) (w : World) : Calls Try.prog 34 #[.agg (encE e)] w fun e' w' => e' = .returned (.bool (decide (RightE e))) ∧ Below w.heap.size w w' := by
  have B0 := Aside0.mk (below_alloc (Below.refl w.heap.size w) (.cells (encE e) 59))
  have G0 := Aside0.mk (blk_new w (.cells (encE e) 59))
  have E0 := Aside0.mk (ec_of G0.out hk)
  have HK := Aside0.mk hk
  have hsz : w.heap.size < (w.alloc (.cells (encE e) 59)).heap.size := by simp
  obtain ⟨q, hq⟩ : ∃ q : Bool, q = decide (RightE e) := ⟨_, rfl⟩
  rw [← hq]
  have HQ := Aside0.mk hq
  clear hq hk
  have x1 := E0.out.x1
  have x2 := E0.out.x2
  have key : ∀ (K : Prop), (e.kind = 1 → e.owner = 0 → K) → (e.kind = 2 → K) → (e.kind ≠ 2 → ¬ (e.kind = 1 ∧ e.owner = 0) → K) → K := fun K a b d => by
    by_cases h1 : e.kind = 1
    · by_cases h2 : e.owner = 0
      · exact a h1 h2
      · exact d (by omega) (fun h => h2 h.2)
    · by_cases h2 : e.kind = 2
      · exact b h2
      · exact d h2 (fun h => h1 h.1)
  refine key _ (fun h1 h2 => ?_) (fun h1 => ?_) (fun h1 h2 => ?_)
  · have k0 : (e.kind == 0) = false := by simp [h1]
    have k1 : (e.kind == 1) = true := by simp [h1]
    have k2 : (e.owner == 0) = true := by simp [h2]
    have C0 := Aside0.mk (show (e.kind = 1 ∧ e.owner = 0) ∨ (e.kind = 2 ∧ Upto 1 e.owner) from .inl ⟨h1, h2⟩)
    clear h1 h2 key
    go_enter Try.func34, Try.ntmps34
    have x0 := E0.out.x0
    go_wp2_with fail
    refine (upto_calls 1 _ 1 1 [e.id] rfl _ (Ci_new _ [e.id] 3 _ (by simp) (by simp)) (by decide) (by decide)).mono ?_
    rintro e1 u1 ⟨rfl, hb⟩
    have B1 := Aside0.mk (below_then (below_alloc B0.out _) (by have := B0.out.size; simp; omega) hb)
    have G1 := Aside0.mk (blk_below (blk_alloc G0.out _) hb)
    have E1 := Aside0.mk (ec_of G1.out HK.out)
    clear hb B0 G0 E0
    clear x0
    by_cases hc : Upto 1 e.id
    case neg =>
      rw [decide_eq_false (show ¬ ∀ x ∈ [e.id], Upto 1 x from fun h => hc (by simpa using h))]
      have hq : q = false := by rw [HQ.out]; exact decide_eq_false (fun h => hc h.id)
      subst hq
      go_wp2
      go_ret
      exact ⟨rfl, B1.out⟩
    rw [decide_eq_true (show ∀ x ∈ [e.id], Upto 1 x from by simpa using hc)]
    have C1 := Aside0.mk hc
    clear hc
    have x3 := E1.out.x3
    by_cases hc : 0 < e.name.size
    case neg =>
      have hd : ¬ (e.name.size : Int) > 0 := by omega
      have hq : q = false := by rw [HQ.out]; exact decide_eq_false (fun h => hc h.n0)
      subst hq
      go_wp2
      go_ret
      exact ⟨rfl, B1.out⟩
    have d1 : (e.name.size : Int) > 0 := by omega
    have C2 := Aside0.mk hc
    clear hc
    by_cases hc : e.name.size ≤ 63
    case neg =>
      have hd : ¬ (e.name.size : Int) ≤ 63 := by omega
      have hq : q = false := by rw [HQ.out]; exact decide_eq_false (fun h => hc h.n1)
      subst hq
      go_wp2
      go_ret
      exact ⟨rfl, B1.out⟩
    have d2 : (e.name.size : Int) ≤ 63 := by omega
    have C3 := Aside0.mk hc
    clear hc
    go_wp2_with ((with_reducible refine gate_on (o := ⟨some 42, _, _, _, _, _⟩) ?_ ?_); rotate_left; dsimp only; (refine load_P rfl _ rfl w.heap.size 4 e.root rfl HK.out.root E1.out.root ?_); rotate_left; kernel_rfl)
    refine (place_calls e.root HK.out.root _).mono ?_
    rintro e1 u4 ⟨rfl, hb⟩
    have B2 := Aside0.mk (below_then B1.out B1.out.size hb)
    have G2 := Aside0.mk (blk_below G1.out hb)
    have E2 := Aside0.mk (ec_of G2.out HK.out)
    clear hb B1 G1 E1
    clear x3
    by_cases hc : PlaceP e.root
    case neg =>
      rw [decide_eq_false (show ¬ PlaceP e.root from hc)]
      have hq : q = false := by rw [HQ.out]; exact decide_eq_false (fun h => hc h.root)
      subst hq
      go_wp2
      go_ret
      exact ⟨rfl, B2.out⟩
    rw [decide_eq_true (show PlaceP e.root from hc)]
    have C4 := Aside0.mk hc
    clear hc
    go_wp2_with ((with_reducible refine gate_on (o := ⟨some 48, _, _, _, _, _⟩) ?_ ?_); rotate_left; dsimp only; (refine load_P rfl _ rfl w.heap.size 40 e.dead rfl HK.out.dead E2.out.dead ?_); rotate_left; kernel_rfl)
    refine (place_calls e.dead HK.out.dead _).mono ?_
    rintro e1 u5 ⟨rfl, hb⟩
    have B3 := Aside0.mk (below_then B2.out B2.out.size hb)
    have G3 := Aside0.mk (blk_below G2.out hb)
    have E3 := Aside0.mk (ec_of G3.out HK.out)
    clear hb B2 G2 E2
    by_cases hc : PlaceP e.dead
    case neg =>
      rw [decide_eq_false (show ¬ PlaceP e.dead from hc)]
      have hq : q = false := by rw [HQ.out]; exact decide_eq_false (fun h => hc h.dead)
      subst hq
      go_wp2
      go_ret
      exact ⟨rfl, B3.out⟩
    rw [decide_eq_true (show PlaceP e.dead from hc)]
    have C5 := Aside0.mk hc
    clear hc
    have x6 := E3.out.x6
    have x7 := E3.out.x7
    have x8 := E3.out.x8
    have x9 := E3.out.x9
    have x10 := E3.out.x10
    go_wp2_with fail
    refine (upto_calls 0 _ 5 5 [e.born, e.prev, e.next, e.origin, e.clones] rfl _ (Ci_new _ [e.born, e.prev, e.next, e.origin, e.clones] 3 _ rfl (by simp)) (by decide) (by decide)).mono ?_
    rintro e1 u6 ⟨rfl, hb⟩
    have B4 := Aside0.mk (below_then (below_alloc B3.out _) (by have := B3.out.size; simp; omega) hb)
    have G4 := Aside0.mk (blk_below (blk_alloc G3.out _) hb)
    have E4 := Aside0.mk (ec_of G4.out HK.out)
    clear hb B3 G3 E3
    clear x6 x7 x8 x9 x10
    by_cases hc : ∀ x ∈ [e.born, e.prev, e.next, e.origin, e.clones], Upto 0 x
    case neg =>
      rw [decide_eq_false hc]
      have hq : q = false := by rw [HQ.out]; exact decide_eq_false (fun h => hc (by intro x hx; simp at hx; rcases hx with rfl | rfl | rfl | rfl | rfl; exact h.born; exact h.prev; exact h.next; exact h.origin; exact h.clones))
      subst hq
      go_wp2
      go_ret
      exact ⟨rfl, B4.out⟩
    rw [decide_eq_true hc]
    have hq : q = true := by rw [HQ.out]; exact decide_eq_true (⟨C0.out, C1.out, C2.out, C3.out, C4.out, C5.out, hc _ (by simp), hc _ (by simp), hc _ (by simp), hc _ (by simp), hc _ (by simp)⟩)
    subst hq
    go_wp2
    go_ret
    exact ⟨rfl, B4.out⟩
  · have k0 : (e.kind == 0) = false := by simp [h1]
    have k1 : (e.kind == 1) = false := by simp [h1]
    have k2 : (e.kind == 2) = true := by simp [h1]
    have HK2 := Aside0.mk h1
    clear h1 key
    go_enter Try.func34, Try.ntmps34
    go_wp2_with fail
    refine (upto_calls 1 _ 1 1 [e.owner] rfl _ (Ci_new _ [e.owner] 3 _ (by simp) (by simp)) (by decide) (by decide)).mono ?_
    rintro e1 u0 ⟨rfl, hb⟩
    have B1 := Aside0.mk (below_then (below_alloc B0.out _) (by have := B0.out.size; simp; omega) hb)
    have G1 := Aside0.mk (blk_below (blk_alloc G0.out _) hb)
    have E1 := Aside0.mk (ec_of G1.out HK.out)
    clear hb B0 G0 E0 x1 x2
    by_cases hc : Upto 1 e.owner
    case neg =>
      rw [decide_eq_false (show ¬ ∀ x ∈ [e.owner], Upto 1 x from fun h => hc (by simpa using h))]
      have hq : q = false := by rw [HQ.out]; exact decide_eq_false (fun h => by have := h.kind; have h2 := HK2.out; rcases this with ⟨a, _⟩ | ⟨_, b⟩; omega; exact hc b)
      subst hq
      go_wp2
      go_ret
      exact ⟨rfl, B1.out⟩
    rw [decide_eq_true (show ∀ x ∈ [e.owner], Upto 1 x from by simpa using hc)]
    have C0 := Aside0.mk (show (e.kind = 1 ∧ e.owner = 0) ∨ (e.kind = 2 ∧ Upto 1 e.owner) from .inr ⟨HK2.out, hc⟩)
    clear hc
    have x0 := E1.out.x0
    go_wp2_with fail
    refine (upto_calls 1 _ 1 1 [e.id] rfl _ (Ci_new _ [e.id] 3 _ (by simp) (by simp)) (by decide) (by decide)).mono ?_
    rintro e1 u1 ⟨rfl, hb⟩
    have B2 := Aside0.mk (below_then (below_alloc B1.out _) (by have := B1.out.size; simp; omega) hb)
    have G2 := Aside0.mk (blk_below (blk_alloc G1.out _) hb)
    have E2 := Aside0.mk (ec_of G2.out HK.out)
    clear hb B1 G1 E1
    clear x0
    by_cases hc : Upto 1 e.id
    case neg =>
      rw [decide_eq_false (show ¬ ∀ x ∈ [e.id], Upto 1 x from fun h => hc (by simpa using h))]
      have hq : q = false := by rw [HQ.out]; exact decide_eq_false (fun h => hc h.id)
      subst hq
      go_wp2
      go_ret
      exact ⟨rfl, B2.out⟩
    rw [decide_eq_true (show ∀ x ∈ [e.id], Upto 1 x from by simpa using hc)]
    have C1 := Aside0.mk hc
    clear hc
    have x3 := E2.out.x3
    by_cases hc : 0 < e.name.size
    case neg =>
      have hd : ¬ (e.name.size : Int) > 0 := by omega
      have hq : q = false := by rw [HQ.out]; exact decide_eq_false (fun h => hc h.n0)
      subst hq
      go_wp2
      go_ret
      exact ⟨rfl, B2.out⟩
    have d1 : (e.name.size : Int) > 0 := by omega
    have C2 := Aside0.mk hc
    clear hc
    by_cases hc : e.name.size ≤ 63
    case neg =>
      have hd : ¬ (e.name.size : Int) ≤ 63 := by omega
      have hq : q = false := by rw [HQ.out]; exact decide_eq_false (fun h => hc h.n1)
      subst hq
      go_wp2
      go_ret
      exact ⟨rfl, B2.out⟩
    have d2 : (e.name.size : Int) ≤ 63 := by omega
    have C3 := Aside0.mk hc
    clear hc
    go_wp2_with ((with_reducible refine gate_on (o := ⟨some 42, _, _, _, _, _⟩) ?_ ?_); rotate_left; dsimp only; (refine load_P rfl _ rfl w.heap.size 4 e.root rfl HK.out.root E2.out.root ?_); rotate_left; kernel_rfl)
    refine (place_calls e.root HK.out.root _).mono ?_
    rintro e1 u4 ⟨rfl, hb⟩
    have B3 := Aside0.mk (below_then B2.out B2.out.size hb)
    have G3 := Aside0.mk (blk_below G2.out hb)
    have E3 := Aside0.mk (ec_of G3.out HK.out)
    clear hb B2 G2 E2
    clear x3
    by_cases hc : PlaceP e.root
    case neg =>
      rw [decide_eq_false (show ¬ PlaceP e.root from hc)]
      have hq : q = false := by rw [HQ.out]; exact decide_eq_false (fun h => hc h.root)
      subst hq
      go_wp2
      go_ret
      exact ⟨rfl, B3.out⟩
    rw [decide_eq_true (show PlaceP e.root from hc)]
    have C4 := Aside0.mk hc
    clear hc
    go_wp2_with ((with_reducible refine gate_on (o := ⟨some 48, _, _, _, _, _⟩) ?_ ?_); rotate_left; dsimp only; (refine load_P rfl _ rfl w.heap.size 40 e.dead rfl HK.out.dead E3.out.dead ?_); rotate_left; kernel_rfl)
    refine (place_calls e.dead HK.out.dead _).mono ?_
    rintro e1 u5 ⟨rfl, hb⟩
    have B4 := Aside0.mk (below_then B3.out B3.out.size hb)
    have G4 := Aside0.mk (blk_below G3.out hb)
    have E4 := Aside0.mk (ec_of G4.out HK.out)
    clear hb B3 G3 E3
    by_cases hc : PlaceP e.dead
    case neg =>
      rw [decide_eq_false (show ¬ PlaceP e.dead from hc)]
      have hq : q = false := by rw [HQ.out]; exact decide_eq_false (fun h => hc h.dead)
      subst hq
      go_wp2
      go_ret
      exact ⟨rfl, B4.out⟩
    rw [decide_eq_true (show PlaceP e.dead from hc)]
    have C5 := Aside0.mk hc
    clear hc
    have x6 := E4.out.x6
    have x7 := E4.out.x7
    have x8 := E4.out.x8
    have x9 := E4.out.x9
    have x10 := E4.out.x10
    go_wp2_with fail
    refine (upto_calls 0 _ 5 5 [e.born, e.prev, e.next, e.origin, e.clones] rfl _ (Ci_new _ [e.born, e.prev, e.next, e.origin, e.clones] 3 _ rfl (by simp)) (by decide) (by decide)).mono ?_
    rintro e1 u6 ⟨rfl, hb⟩
    have B5 := Aside0.mk (below_then (below_alloc B4.out _) (by have := B4.out.size; simp; omega) hb)
    have G5 := Aside0.mk (blk_below (blk_alloc G4.out _) hb)
    have E5 := Aside0.mk (ec_of G5.out HK.out)
    clear hb B4 G4 E4
    clear x6 x7 x8 x9 x10
    by_cases hc : ∀ x ∈ [e.born, e.prev, e.next, e.origin, e.clones], Upto 0 x
    case neg =>
      rw [decide_eq_false hc]
      have hq : q = false := by rw [HQ.out]; exact decide_eq_false (fun h => hc (by intro x hx; simp at hx; rcases hx with rfl | rfl | rfl | rfl | rfl; exact h.born; exact h.prev; exact h.next; exact h.origin; exact h.clones))
      subst hq
      go_wp2
      go_ret
      exact ⟨rfl, B5.out⟩
    rw [decide_eq_true hc]
    have hq : q = true := by rw [HQ.out]; exact decide_eq_true (⟨C0.out, C1.out, C2.out, C3.out, C4.out, C5.out, hc _ (by simp), hc _ (by simp), hc _ (by simp), hc _ (by simp), hc _ (by simp)⟩)
    subst hq
    go_wp2
    go_ret
    exact ⟨rfl, B5.out⟩
  · have HN := Aside0.mk (And.intro h1 h2)
    have k2 : (e.kind == 2) = false := by simp [h1]
    have hq : q = false := by rw [HQ.out]; exact decide_eq_false (fun h => by rcases h.kind with a | b; exact HN.out.2 a; exact HN.out.1 b.1)
    subst hq
    clear h1 key
    by_cases h0 : e.kind = 0
    · have k0 : (e.kind == 0) = true := by simp [h0]
      clear h0
      go_enter Try.func34, Try.ntmps34
      go_wp2
      go_ret
      exact ⟨rfl, B0.out⟩
    · have k0 : (e.kind == 0) = false := by simp [h0]
      by_cases h3 : e.kind = 1
      · have k1 : (e.kind == 1) = true := by simp [h3]
        have k3 : (e.owner == 0) = false := by simpa [h3] using h2
        clear h0 h3 h2
        go_enter Try.func34, Try.ntmps34
        go_wp2
        go_ret
        exact ⟨rfl, B0.out⟩
      · have k1 : (e.kind == 1) = false := by simp [h3]
        clear h0 h3 h2
        go_enter Try.func34, Try.ntmps34
        go_wp2
        go_ret
        exact ⟨rfl, B0.out⟩

set_option maxRecDepth 100000 in
set_option maxHeartbeats 2000000 in
theorem rrightE_calls (e : Ent) (hk : OkE e) (w : World) : Calls Try.prog 35 #[.agg (encE e)] w fun e' w' => e' = .returned (.bool (decide (RightE e))) ∧ Below w.heap.size w w' := by
  have B0 := Aside0.mk (below_alloc (Below.refl w.heap.size w) (.cells (encE e) 62))
  have G0 := Aside0.mk (blk_new w (.cells (encE e) 62))
  have E0 := Aside0.mk (ec_of G0.out hk)
  have HK := Aside0.mk hk
  have hsz : w.heap.size < (w.alloc (.cells (encE e) 62)).heap.size := by simp
  obtain ⟨q, hq⟩ : ∃ q : Bool, q = decide (RightE e) := ⟨_, rfl⟩
  rw [← hq]
  have HQ := Aside0.mk hq
  clear hq hk
  have x0 := E0.out.x0
  go_enter Try.func35, Try.ntmps35
  go_wp2_with fail
  refine (EntA.in_calls e.id 1 _).mono ?_
  rintro e1 u1 ⟨rfl, rfl⟩
  by_cases hc : Upto 1 e.id
  case neg =>
    rw [decide_eq_false hc]
    have hq : q = false := by rw [HQ.out]; exact decide_eq_false (fun h => hc h.id)
    subst hq
    go_wp2
    go_ret
    exact ⟨rfl, B0.out⟩
  rw [decide_eq_true hc]
  have C1 := Aside0.mk hc
  clear hc
  have x3 := E0.out.x3
  by_cases hc : 0 < e.name.size
  case neg =>
    have hd : (e.name.size : Int) < 1 := by omega
    have hq : q = false := by rw [HQ.out]; exact decide_eq_false (fun h => hc h.n0)
    subst hq
    go_wp2
    go_ret
    exact ⟨rfl, B0.out⟩
  have d1 : decide ((e.name.size : Int) < 1) = false := decide_eq_false (by omega)
  have C2 := Aside0.mk hc
  clear hc
  by_cases hc : e.name.size ≤ 63
  case neg =>
    have hd : (e.name.size : Int) > 63 := by omega
    have hq : q = false := by rw [HQ.out]; exact decide_eq_false (fun h => hc h.n1)
    subst hq
    go_wp2
    go_ret
    exact ⟨rfl, B0.out⟩
  have d2 : decide ((63 : Int) < (e.name.size : Int)) = false := decide_eq_false (by omega)
  have C3 := Aside0.mk hc
  clear hc
  go_wp2_with ((with_reducible refine gate_on (o := ⟨some 21, _, _, _, _, _⟩) ?_ ?_); rotate_left; dsimp only; (refine load_P rfl _ rfl w.heap.size 4 e.root rfl HK.out.root E0.out.root ?_); rotate_left; kernel_rfl)
  refine (rplace_calls e.root HK.out.root _).mono ?_
  rintro e1 u4 ⟨rfl, hb⟩
  have B1 := Aside0.mk (below_then B0.out B0.out.size hb)
  have G1 := Aside0.mk (blk_below G0.out hb)
  have E1 := Aside0.mk (ec_of G1.out HK.out)
  clear hb B0 G0 E0
  clear x0 x3
  by_cases hc : PlaceP e.root
  case neg =>
    rw [decide_eq_false hc]
    have hq : q = false := by rw [HQ.out]; exact decide_eq_false (fun h => hc h.root)
    subst hq
    go_wp2
    go_ret
    exact ⟨rfl, B1.out⟩
  rw [decide_eq_true hc]
  have C4 := Aside0.mk hc
  clear hc
  go_wp2_with ((with_reducible refine gate_on (o := ⟨some 27, _, _, _, _, _⟩) ?_ ?_); rotate_left; dsimp only; (refine load_P rfl _ rfl w.heap.size 40 e.dead rfl HK.out.dead E1.out.dead ?_); rotate_left; kernel_rfl)
  refine (rplace_calls e.dead HK.out.dead _).mono ?_
  rintro e1 u5 ⟨rfl, hb⟩
  have B2 := Aside0.mk (below_then B1.out B1.out.size hb)
  have G2 := Aside0.mk (blk_below G1.out hb)
  have E2 := Aside0.mk (ec_of G2.out HK.out)
  clear hb B1 G1 E1
  by_cases hc : PlaceP e.dead
  case neg =>
    rw [decide_eq_false hc]
    have hq : q = false := by rw [HQ.out]; exact decide_eq_false (fun h => hc h.dead)
    subst hq
    go_wp2
    go_ret
    exact ⟨rfl, B2.out⟩
  rw [decide_eq_true hc]
  have C5 := Aside0.mk hc
  clear hc
  have x1 := E2.out.x1
  have x2 := E2.out.x2
  have x6 := E2.out.x6
  have x7 := E2.out.x7
  have x8 := E2.out.x8
  have x9 := E2.out.x9
  have x10 := E2.out.x10
  have key : ∀ (K : Prop), (e.kind = 1 → e.owner = 0 → K) → (e.kind = 2 → K) → (e.kind ≠ 2 → ¬ (e.kind = 1 ∧ e.owner = 0) → K) → K := fun K a b d => by
    by_cases h1 : e.kind = 1
    · by_cases h2 : e.owner = 0
      · exact a h1 h2
      · exact d (by omega) (fun h => h2 h.2)
    · by_cases h2 : e.kind = 2
      · exact b h2
      · exact d h2 (fun h => h1 h.1)
  refine key _ (fun h1 h2 => ?_) (fun h1 => ?_) (fun h1 h2 => ?_)
  · have k1 : (e.kind == 1) = true := by simp [h1]
    have k2 : (e.owner == 0) = true := by simp [h2]
    have C0 := Aside0.mk (show (e.kind = 1 ∧ e.owner = 0) ∨ (e.kind = 2 ∧ Upto 1 e.owner) from .inl ⟨h1, h2⟩)
    clear h1 h2 key
    go_wp2_with fail
    refine (EntA.in_calls e.born 0 _).mono ?_
    rintro e1 u7 ⟨rfl, rfl⟩
    by_cases hc : Upto 0 e.born
    case neg =>
      rw [decide_eq_false hc]
      have hq : q = false := by rw [HQ.out]; exact decide_eq_false (fun h => hc h.born)
      subst hq
      go_wp2
      go_ret
      exact ⟨rfl, B2.out⟩
    rw [decide_eq_true hc]
    have Dborn := Aside0.mk hc
    clear hc
    go_wp2_with fail
    refine (EntA.in_calls e.prev 0 _).mono ?_
    rintro e1 u7 ⟨rfl, rfl⟩
    by_cases hc : Upto 0 e.prev
    case neg =>
      rw [decide_eq_false hc]
      have hq : q = false := by rw [HQ.out]; exact decide_eq_false (fun h => hc h.prev)
      subst hq
      go_wp2
      go_ret
      exact ⟨rfl, B2.out⟩
    rw [decide_eq_true hc]
    have Dprev := Aside0.mk hc
    clear hc
    go_wp2_with fail
    refine (EntA.in_calls e.next 0 _).mono ?_
    rintro e1 u7 ⟨rfl, rfl⟩
    by_cases hc : Upto 0 e.next
    case neg =>
      rw [decide_eq_false hc]
      have hq : q = false := by rw [HQ.out]; exact decide_eq_false (fun h => hc h.next)
      subst hq
      go_wp2
      go_ret
      exact ⟨rfl, B2.out⟩
    rw [decide_eq_true hc]
    have Dnext := Aside0.mk hc
    clear hc
    go_wp2_with fail
    refine (EntA.in_calls e.origin 0 _).mono ?_
    rintro e1 u7 ⟨rfl, rfl⟩
    by_cases hc : Upto 0 e.origin
    case neg =>
      rw [decide_eq_false hc]
      have hq : q = false := by rw [HQ.out]; exact decide_eq_false (fun h => hc h.origin)
      subst hq
      go_wp2
      go_ret
      exact ⟨rfl, B2.out⟩
    rw [decide_eq_true hc]
    have Dorigin := Aside0.mk hc
    clear hc
    go_wp2_with fail
    refine (EntA.in_calls e.clones 0 _).mono ?_
    rintro e1 u7 ⟨rfl, rfl⟩
    by_cases hc : Upto 0 e.clones
    case neg =>
      rw [decide_eq_false hc]
      have hq : q = false := by rw [HQ.out]; exact decide_eq_false (fun h => hc h.clones)
      subst hq
      go_wp2
      go_ret
      exact ⟨rfl, B2.out⟩
    rw [decide_eq_true hc]
    have Dclones := Aside0.mk hc
    clear hc
    have hq : q = true := by rw [HQ.out]; exact decide_eq_true (⟨C0.out, C1.out, C2.out, C3.out, C4.out, C5.out, Dborn.out, Dprev.out, Dnext.out, Dorigin.out, Dclones.out⟩)
    subst hq
    go_wp2
    go_ret
    exact ⟨rfl, B2.out⟩
  · have k1 : (e.kind == 1) = false := by simp [h1]
    have k2 : (e.kind == 2) = true := by simp [h1]
    have HK2 := Aside0.mk h1
    clear h1 key
    go_wp2_with fail
    refine (EntA.in_calls e.owner 1 _).mono ?_
    rintro e1 u7 ⟨rfl, rfl⟩
    by_cases hc : Upto 1 e.owner
    case neg =>
      rw [decide_eq_false hc]
      have hq : q = false := by rw [HQ.out]; exact decide_eq_false (fun h => by have := h.kind; have h2 := HK2.out; rcases this with ⟨a, _⟩ | ⟨_, b⟩; omega; exact hc b)
      subst hq
      go_wp2
      go_ret
      exact ⟨rfl, B2.out⟩
    rw [decide_eq_true hc]
    have C0 := Aside0.mk (show (e.kind = 1 ∧ e.owner = 0) ∨ (e.kind = 2 ∧ Upto 1 e.owner) from .inr ⟨HK2.out, hc⟩)
    clear hc
    go_wp2_with fail
    refine (EntA.in_calls e.born 0 _).mono ?_
    rintro e1 u7 ⟨rfl, rfl⟩
    by_cases hc : Upto 0 e.born
    case neg =>
      rw [decide_eq_false hc]
      have hq : q = false := by rw [HQ.out]; exact decide_eq_false (fun h => hc h.born)
      subst hq
      go_wp2
      go_ret
      exact ⟨rfl, B2.out⟩
    rw [decide_eq_true hc]
    have Dborn := Aside0.mk hc
    clear hc
    go_wp2_with fail
    refine (EntA.in_calls e.prev 0 _).mono ?_
    rintro e1 u7 ⟨rfl, rfl⟩
    by_cases hc : Upto 0 e.prev
    case neg =>
      rw [decide_eq_false hc]
      have hq : q = false := by rw [HQ.out]; exact decide_eq_false (fun h => hc h.prev)
      subst hq
      go_wp2
      go_ret
      exact ⟨rfl, B2.out⟩
    rw [decide_eq_true hc]
    have Dprev := Aside0.mk hc
    clear hc
    go_wp2_with fail
    refine (EntA.in_calls e.next 0 _).mono ?_
    rintro e1 u7 ⟨rfl, rfl⟩
    by_cases hc : Upto 0 e.next
    case neg =>
      rw [decide_eq_false hc]
      have hq : q = false := by rw [HQ.out]; exact decide_eq_false (fun h => hc h.next)
      subst hq
      go_wp2
      go_ret
      exact ⟨rfl, B2.out⟩
    rw [decide_eq_true hc]
    have Dnext := Aside0.mk hc
    clear hc
    go_wp2_with fail
    refine (EntA.in_calls e.origin 0 _).mono ?_
    rintro e1 u7 ⟨rfl, rfl⟩
    by_cases hc : Upto 0 e.origin
    case neg =>
      rw [decide_eq_false hc]
      have hq : q = false := by rw [HQ.out]; exact decide_eq_false (fun h => hc h.origin)
      subst hq
      go_wp2
      go_ret
      exact ⟨rfl, B2.out⟩
    rw [decide_eq_true hc]
    have Dorigin := Aside0.mk hc
    clear hc
    go_wp2_with fail
    refine (EntA.in_calls e.clones 0 _).mono ?_
    rintro e1 u7 ⟨rfl, rfl⟩
    by_cases hc : Upto 0 e.clones
    case neg =>
      rw [decide_eq_false hc]
      have hq : q = false := by rw [HQ.out]; exact decide_eq_false (fun h => hc h.clones)
      subst hq
      go_wp2
      go_ret
      exact ⟨rfl, B2.out⟩
    rw [decide_eq_true hc]
    have Dclones := Aside0.mk hc
    clear hc
    have hq : q = true := by rw [HQ.out]; exact decide_eq_true (⟨C0.out, C1.out, C2.out, C3.out, C4.out, C5.out, Dborn.out, Dprev.out, Dnext.out, Dorigin.out, Dclones.out⟩)
    subst hq
    go_wp2
    go_ret
    exact ⟨rfl, B2.out⟩
  · have HN := Aside0.mk (And.intro h1 h2)
    have k2 : (e.kind == 2) = false := by simp [h1]
    have hq : q = false := by rw [HQ.out]; exact decide_eq_false (fun h => by rcases h.kind with a | b; exact HN.out.2 a; exact HN.out.1 b.1)
    subst hq
    clear h1 key
    by_cases h3 : e.kind = 1
    · have k1 : (e.kind == 1) = true := by simp [h3]
      have k3 : (e.owner == 0) = false := by simpa [h3] using h2
      clear h3 h2
      go_wp2
      go_ret
      exact ⟨rfl, B2.out⟩
    · have k1 : (e.kind == 1) = false := by simp [h3]
      clear h3 h2
      go_wp2
      go_ret
      exact ⟨rfl, B2.out⟩
end Go.Proofs.Ytfefpbnhpncmlaa.EntB
/- Text, ReadText, and the document's: contracts. -/
namespace Go.Proofs.Ytfefpbnhpncmlaa.EntC
open Go.RowKit Go.Proofs.Ytfefpbnhpncmlaa.EntL Go.Proofs.Ytfefpbnhpncmlaa.EntB Go.Proofs.Ytfefpbnhpncmlaa.CatK Go.Proofs.Ytfefpbnhpncmlaa.CatS Go.Proofs.Ytfefpbnhpncmlaa.RefG Go.Proofs.Ytfefpbnhpncmlaa.PtrB Go.Proofs.Ytfefpbnhpncmlaa.Agg Go.Proofs.Ytfefpbnhpncmlaa.B8 Go.Proofs.Ytfefpbnhpncmlaa.CodL Go.Proofs.Ytfefpbnhpncmlaa.CodA Go.Proofs.Ytfefpbnhpncmlaa.CodB Go.Proofs.Ytfefpbnhpncmlaa.CatL Go.Proofs.Ytfefpbnhpncmlaa.PtrA Go.Proofs.Ytfefpbnhpncmlaa.PtrE Go.Proofs.Ytfefpbnhpncmlaa.PtrF Go.Proofs.Ytfefpbnhpncmlaa.PBaseSigns Go.Proofs.YtfefpbnhpncmlaaW.PrintWords Go.Proofs.YtfefpbnhpncmlaaW.PrintLast Go.Proofs.YtfefpbnhpncmlaaW.PrintMore
set_option linter.unusedVariables false
set_option linter.unusedSimpArgs false

theorem R8_of_nums {w : World} {base : Nat} {v : Value} {n : Nat} {xs : List Int} (hn : n = xs.length) (h : w.ownsRow base 5 1 v n (nums .u8 xs)) : R8 w base v xs := by
  subst hn
  exact Kd.R_of_own h (fun _ _ => trivial)
theorem nums_of_R8 {w : World} {base : Nat} {v : Value} {xs : List Int} (h : R8 w base v xs) : w.ownsRow base 5 1 v xs.length (nums .u8 xs) := Kd.own_of_R h
theorem bytesOf_len (s : ByteArray) : (bytesOf s).length = s.size := bytesOf_length s
theorem str_bytes (s : ByteArray) : strOfNums (bytesOf s) = s := by
  obtain ⟨⟨l⟩⟩ := s
  simp only [strOfNums, bytesOf]
  congr 2
  rw [List.map_map]
  conv => rhs; rw [← List.map_id l]
  exact List.map_congr_left fun b _ => by simp

set_option maxRecDepth 100000 in
set_option maxHeartbeats 400000 in
theorem text_calls (A : Option Addr) (c n : Nat) (l : List Int) (hn : n = l.length) (s : ByteArray) (w : World) (hr : C8 w A n l) (hm : n ≤ 900000) (hs : s.size ≤ 10000) :
    Calls Try.prog 88 #[.slice A n c, .string s] w (Tells w (l ++ textL s)) := by
  subst hn
  have HR := Aside0.mk hr
  clear hr
  have hw : IntKind.u64.wrap (s.size : Int) = (s.size : Int) := wraps_u64 _ (by omega) (by omega)
  have hg := glen_ten (n := s.size) (by omega)
  obtain ⟨L1, hL1⟩ : ∃ L, L = l ++ shortL s.size := ⟨_, rfl⟩
  have HL1 := Aside0.mk hL1
  have hlen : L1.length ≤ 900010 := by rw [hL1, List.length_append]; unfold glen at hg; omega
  clear hL1 hg
  go_enter Try.func88, Try.ntmps88
  go_wp2_with fail
  refine (short_at A c l.length l L1 s.size _ w rfl HL1.out rfl HR.out (by omega) (by omega)).mono ?_
  rintro e w1 ⟨v1, rfl, hr1, hb1⟩
  have H1 := Aside0.mk (And.intro (nums_of_R8 hr1) hb1)
  clear hr1 hb1
  have hs1 : w.heap.size ≤ w1.heap.size := H1.out.2.size
  go_wp2_with (at_builtin; refine print_append_str (w0 := w) w.heap.size rfl (.tmp 9) (.tmp 10) 31 9 5 rfl Try.underlying31 Try.underlying9 info5 v1 L1 s rfl rfl H1.out.1 H1.out.2 hs1 (by omega) ?_; intro v2 w2 ho hb hgr; have H2 := Aside0.mk (And.intro ho hb); clear ho hb hgr)
  go_ret
  refine ⟨_, rfl, ?_, H2.out.2⟩
  have h := R8_of_nums rfl H2.out.1
  rw [HL1.out, List.append_assoc] at h
  exact h
set_option maxRecDepth 100000 in
set_option maxHeartbeats 400000 in
theorem rtext_calls (A : Option Addr) (c n : Nat) (l : List Int) (hn : n = l.length) (s : ByteArray) (w : World) (hr : C8 w A n l) (hm : n ≤ 900000) (hs : s.size ≤ 10000) :
    Calls Try.prog 69 #[.slice A n c, .string s] w (Tells w (l ++ textL s)) := by
  subst hn
  have HR := Aside0.mk hr
  clear hr
  have hw : IntKind.u64.wrap (s.size : Int) = (s.size : Int) := wraps_u64 _ (by omega) (by omega)
  have hg := glen_ten (n := s.size) (by omega)
  have hlen : (l ++ shortL s.size).length ≤ 900010 := by rw [List.length_append]; unfold glen at hg; omega
  clear hg
  go_enter Try.func69, Try.ntmps69
  go_wp2_with fail
  refine (RefB.rshort_calls A c l s.size w HR.out (by omega) (by omega)).mono ?_
  rintro e w1 ⟨v1, rfl, hr1, hb1⟩
  have H1 := Aside0.mk (And.intro (nums_of_R8 hr1) hb1)
  clear hr1 hb1
  generalize hL1 : l ++ shortL s.size = L1 at *
  have HL1 := Aside0.mk hL1
  clear hL1
  have hs1 : w.heap.size ≤ w1.heap.size := H1.out.2.size
  go_wp2_with (at_builtin; refine print_append_str (w0 := w) w.heap.size rfl (.tmp 9) (.tmp 10) 31 9 5 rfl Try.underlying31 Try.underlying9 info5 v1 L1 s rfl rfl H1.out.1 H1.out.2 hs1 (by omega) ?_; intro v2 w2 ho hb hgr; have H2 := Aside0.mk (And.intro ho hb); clear ho hb hgr)
  go_ret
  refine ⟨_, rfl, ?_, H2.out.2⟩
  have h := R8_of_nums rfl H2.out.1
  rw [← HL1.out, List.append_assoc] at h
  exact h

/-- Reading a text: the text, how many bytes it has with its length, and the error's number. -/
def readText (l : List Int) (most : Nat) : ByteArray × Nat × Int :=
  if (readShort l).2.2 ≠ 0 then (⟨#[]⟩, 0, (readShort l).2.2)
  else if (most : Int) < (readShort l).1 then (⟨#[]⟩, 0, 3)
  else if ((l.length - (readShort l).2.1 : Nat) : Int) < (readShort l).1 then (⟨#[]⟩, 0, 10)
  else (strOfNums ((l.drop (readShort l).2.1).take (readShort l).1.toNat), (readShort l).2.1 + (readShort l).1.toNat, 0)
theorem readText_used (l : List Int) (most : Nat) : (readText l most).2.1 ≤ l.length := by
  have := readShort_used l
  unfold readText
  split
  · simp
  split
  · simp
  split
  · simp
  · simp only; omega
theorem readText_size (l : List Int) (most : Nat) : (readText l most).1.size ≤ most := by
  unfold readText
  split
  · simp [ByteArray.size]
  split
  · simp [ByteArray.size]
  split
  · simp [ByteArray.size]
  · simp [strOfNums, ByteArray.size]; omega
theorem readText_textL (s : ByteArray) (most : Nat) (hs : s.size ≤ most) (hm : most ≤ 1000000) (r : List Int) : readText (textL s ++ r) most = (s, (textL s).length, 0) := by
  have e : textL s ++ r = shortL s.size ++ (bytesOf s ++ r) := by simp [textL]
  have h := readShort_shortL s.size (by omega) (bytesOf s ++ r)
  rw [← e] at h
  have hl : (textL s).length = glen s.size + s.size := by rw [textL, List.length_append, bytesOf_len]; rfl
  have hd : (textL s ++ r).drop (glen s.size) = bytesOf s ++ r := by rw [e]; exact List.drop_left' rfl
  unfold readText
  rw [h]
  simp only [ne_eq, not_true_eq_false, if_false, Int.toNat_natCast]
  rw [if_neg (by omega), if_neg (by rw [List.length_append, hl]; omega), hd, List.take_append_of_le_length (by rw [bytesOf_len]; exact Nat.le_refl _), List.take_of_length_le (by rw [bytesOf_len]; exact Nat.le_refl _)]
  rw [str_bytes s, hl]

set_option maxRecDepth 100000 in
set_option maxHeartbeats 1000000 in
theorem readText_calls (A : Option Addr) (c n : Nat) (l : List Int) (hn : n = l.length) (w : World) (hr : C8 w A n l) (hb : Byt l) (hc : n ≤ c) (hm : n ≤ 1000000) :
    Calls Try.prog 110 #[.slice A n c, .int .i64 63] w fun e w' => e = .returned (.tuple #[.string (readText l 63).1, .int .i64 ((readText l 63).2.1 : Int), .int .i64 (readText l 63).2.2]) ∧ w = w' := by
  subst hn
  have HC := Aside0.mk (And.intro hr (And.intro hb hc))
  have hb1 := readShort_bound hb
  have hu := readShort_used l
  obtain ⟨m, hmx⟩ : ∃ m : Nat, (readShort l).1 = (m : Int) := ⟨(readShort l).1.toNat, by omega⟩
  obtain ⟨u, hu1⟩ : ∃ u, u = (readShort l).2.1 := ⟨_, rfl⟩
  obtain ⟨er, her⟩ : ∃ er, er = (readShort l).2.2 := ⟨_, rfl⟩
  obtain ⟨P, hP⟩ : ∃ P : Ending → World → Prop, P = (fun e w' => e = .returned (.tuple #[.string (readText l 63).1, .int .i64 ((readText l 63).2.1 : Int), .int .i64 (readText l 63).2.2]) ∧ w = w') := ⟨_, rfl⟩
  rw [← hP]
  have HP := Aside0.mk hP
  have HX := Aside0.mk (And.intro hmx (And.intro hu1 her))
  rw [hmx] at hb1
  rw [← hu1] at hu
  have H1 : Aside0 (er ≠ 0 → readText l 63 = (⟨#[]⟩, 0, er)) := ⟨fun h => by unfold readText; rw [← her, if_pos h]⟩
  have H2 : Aside0 (er = 0 → 63 < m → readText l 63 = (⟨#[]⟩, 0, 3)) := ⟨fun h h2 => by unfold readText; rw [← her, if_neg (by simp [h]), hmx, if_pos (by omega)]⟩
  have H3 : Aside0 (er = 0 → ¬ 63 < m → l.length - u < m → readText l 63 = (⟨#[]⟩, 0, 10)) := ⟨fun h h2 h3 => by unfold readText; rw [← her, if_neg (by simp [h]), hmx, if_neg (by omega), ← hu1, if_pos (by omega)]⟩
  have H4 : Aside0 (er = 0 → ¬ 63 < m → ¬ l.length - u < m → readText l 63 = (strOfNums ((l.drop u).take m), u + m, 0)) := ⟨fun h h2 h3 => by unfold readText; rw [← her, if_neg (by simp [h]), hmx, if_neg (by omega), ← hu1, if_neg (by omega), Int.toNat_natCast]⟩
  clear hr hb hc hP hmx hu1 her
  go_enter Try.func110, Try.ntmps110
  go_wp2_with fail
  refine (CodC.readShort_calls A c l w HC.out.1 HC.out.2.1 HC.out.2.2 hm).mono ?_
  rintro e w1 ⟨rfl, rfl⟩
  rw [HX.out.1, ← HX.out.2.1, ← HX.out.2.2]
  by_cases he : er = 0
  case neg =>
    have HF := Aside0.mk (H1.out he)
    have hbe : (er == 0) = false := by simp [he]
    have hbe2 : (er != 0) = true := by simp [he]
    clear he
    go_wp2
    go_ret3
    rw [HP.out]
    exact ⟨by rw [HF.out]; rfl, rfl⟩
  by_cases h63 : 63 < m
  · have HF := Aside0.mk (H2.out he h63)
    have hd : (m : Int) > 63 := by omega
    subst he
    go_wp2
    go_ret3
    rw [HP.out]
    exact ⟨by rw [HF.out]; rfl, rfl⟩
  by_cases hlt : l.length - u < m
  · have HF := Aside0.mk (H3.out he h63 hlt)
    have hd : ¬ (m : Int) > 63 := by omega
    have hd3 : decide ((63 : Int) < (m : Int)) = false := decide_eq_false (by omega)
    have hd2 : (m : Int) > (l.length : Int) - (u : Int) := by omega
    have hw : IntKind.u64.wrap ((l.length : Int) - (u : Int)) = (l.length : Int) - (u : Int) := wraps_u64 _ (by omega) (by omega)
    have hw2 : IntKind.i64.wrap ((l.length : Int) - (u : Int)) = (l.length : Int) - (u : Int) := by rw [IntKind.wrap_i64]; omega
    subst he
    go_wp2
    go_ret3
    rw [HP.out]
    exact ⟨by rw [HF.out]; rfl, rfl⟩
  · have HF := Aside0.mk (H4.out he h63 hlt)
    have hd : ¬ (m : Int) > 63 := by omega
    have hd3 : decide ((63 : Int) < (m : Int)) = false := decide_eq_false (by omega)
    have hd2 : ¬ (m : Int) > (l.length : Int) - (u : Int) := by omega
    have hw : IntKind.u64.wrap ((l.length : Int) - (u : Int)) = (l.length : Int) - (u : Int) := wraps_u64 _ (by omega) (by omega)
    have hw2 : IntKind.i64.wrap ((l.length : Int) - (u : Int)) = (l.length : Int) - (u : Int) := by rw [IntKind.wrap_i64]; omega
    have hw3 : wrap64 (m : Int) = (m : Int) := by unfold wrap64; omega
    have hw4 : IntKind.i64.wrap ((u : Int) + (m : Int)) = (u : Int) + (m : Int) := by rw [IntKind.wrap_i64]; omega
    have hlu : u + m ≤ l.length := by omega
    have hcut0 := cut8_mid A l.length c u (u + m) (by omega) hlu HC.out.2.2
    have HD := C8_mid HC.out.1 HC.out.2.2 (show u ≤ u + m by omega) hlu
    generalize (if c = u then A else A.map (·.add u)) = A2 at hcut0 HD
    rw [show u + m - u = m by omega] at hcut0 HD
    have hcut : ∀ W : World, (Instr.slice 31 (.slice A l.length c) (some (.int .i64 (u : Int))) (some (.int .i64 ((u : Int) + (m : Int)))) none).run Try.prog W = .ok (.slice A2 m (c - u)) W := fun W => by
      have := hcut0 W
      rwa [Int.natCast_add] at this
    have hcv : (convert 31 9 (.slice A2 m (c - u))).run Try.prog w = .ok (.string (strOfNums ((l.drop u).take m))) w := by
      have := Kd.C_string (P := Try.prog) (c := c - u) Try.underlying31 Try.underlying5 Try.underlying9 HD
      rw [List.drop_take, show u + m - u = m by omega] at this
      exact this
    generalize strOfNums ((l.drop u).take m) = S at *
    clear hcut0 HD
    subst he
    go_wp2
    go_ret3
    rw [HP.out]
    exact ⟨by rw [HF.out]; simp, rfl⟩

set_option maxRecDepth 100000 in
set_option maxHeartbeats 1000000 in
theorem rreadText_calls (A : Option Addr) (c n : Nat) (l : List Int) (hn : n = l.length) (w : World) (hr : C8 w A n l) (hb : Byt l) (hc : n ≤ c) (hm : n ≤ 1000000) :
    Calls Try.prog 71 #[.slice A n c, .int .i64 63] w fun e w' => e = .returned (.tuple #[.string (readText l 63).1, .int .i64 ((readText l 63).2.1 : Int), .int .i64 (readText l 63).2.2]) ∧ w = w' := by
  subst hn
  have HC := Aside0.mk (And.intro hr (And.intro hb hc))
  have hb1 := readShort_bound hb
  have hu := readShort_used l
  obtain ⟨m, hmx⟩ : ∃ m : Nat, (readShort l).1 = (m : Int) := ⟨(readShort l).1.toNat, by omega⟩
  obtain ⟨u, hu1⟩ : ∃ u, u = (readShort l).2.1 := ⟨_, rfl⟩
  obtain ⟨er, her⟩ : ∃ er, er = (readShort l).2.2 := ⟨_, rfl⟩
  obtain ⟨P, hP⟩ : ∃ P : Ending → World → Prop, P = (fun e w' => e = .returned (.tuple #[.string (readText l 63).1, .int .i64 ((readText l 63).2.1 : Int), .int .i64 (readText l 63).2.2]) ∧ w = w') := ⟨_, rfl⟩
  rw [← hP]
  have HP := Aside0.mk hP
  have HX := Aside0.mk (And.intro hmx (And.intro hu1 her))
  rw [hmx] at hb1
  rw [← hu1] at hu
  have H1 : Aside0 (er ≠ 0 → readText l 63 = (⟨#[]⟩, 0, er)) := ⟨fun h => by unfold readText; rw [← her, if_pos h]⟩
  have H2 : Aside0 (er = 0 → 63 < m → readText l 63 = (⟨#[]⟩, 0, 3)) := ⟨fun h h2 => by unfold readText; rw [← her, if_neg (by simp [h]), hmx, if_pos (by omega)]⟩
  have H3 : Aside0 (er = 0 → ¬ 63 < m → l.length - u < m → readText l 63 = (⟨#[]⟩, 0, 10)) := ⟨fun h h2 h3 => by unfold readText; rw [← her, if_neg (by simp [h]), hmx, if_neg (by omega), ← hu1, if_pos (by omega)]⟩
  have H4 : Aside0 (er = 0 → ¬ 63 < m → ¬ l.length - u < m → readText l 63 = (strOfNums ((l.drop u).take m), u + m, 0)) := ⟨fun h h2 h3 => by unfold readText; rw [← her, if_neg (by simp [h]), hmx, if_neg (by omega), ← hu1, if_neg (by omega), Int.toNat_natCast]⟩
  clear hr hb hc hP hmx hu1 her
  go_enter Try.func71, Try.ntmps71
  go_wp2_with fail
  refine (RefI.rreadShort_calls A c l w HC.out.1 HC.out.2.1 HC.out.2.2 hm).mono ?_
  rintro e w1 ⟨rfl, rfl⟩
  rw [HX.out.1, ← HX.out.2.1, ← HX.out.2.2]
  by_cases he : er = 0
  case neg =>
    have HF := Aside0.mk (H1.out he)
    have hbe : (er == 0) = false := by simp [he]
    have hbe2 : (er != 0) = true := by simp [he]
    clear he
    go_wp2
    go_ret3
    rw [HP.out]
    exact ⟨by rw [HF.out]; rfl, rfl⟩
  by_cases h63 : 63 < m
  · have HF := Aside0.mk (H2.out he h63)
    have hd : (m : Int) > 63 := by omega
    subst he
    go_wp2
    go_ret3
    rw [HP.out]
    exact ⟨by rw [HF.out]; rfl, rfl⟩
  by_cases hlt : l.length - u < m
  · have HF := Aside0.mk (H3.out he h63 hlt)
    have hd : ¬ (m : Int) > 63 := by omega
    have hd3 : decide ((63 : Int) < (m : Int)) = false := decide_eq_false (by omega)
    have hd2 : (m : Int) > (l.length : Int) - (u : Int) := by omega
    have hw : IntKind.u64.wrap ((l.length : Int) - (u : Int)) = (l.length : Int) - (u : Int) := wraps_u64 _ (by omega) (by omega)
    have hw2 : IntKind.i64.wrap ((l.length : Int) - (u : Int)) = (l.length : Int) - (u : Int) := by rw [IntKind.wrap_i64]; omega
    subst he
    go_wp2
    go_ret3
    rw [HP.out]
    exact ⟨by rw [HF.out]; rfl, rfl⟩
  · have HF := Aside0.mk (H4.out he h63 hlt)
    have hd : ¬ (m : Int) > 63 := by omega
    have hd3 : decide ((63 : Int) < (m : Int)) = false := decide_eq_false (by omega)
    have hd2 : ¬ (m : Int) > (l.length : Int) - (u : Int) := by omega
    have hw : IntKind.u64.wrap ((l.length : Int) - (u : Int)) = (l.length : Int) - (u : Int) := wraps_u64 _ (by omega) (by omega)
    have hw2 : IntKind.i64.wrap ((l.length : Int) - (u : Int)) = (l.length : Int) - (u : Int) := by rw [IntKind.wrap_i64]; omega
    have hw3 : wrap64 (m : Int) = (m : Int) := by unfold wrap64; omega
    have hw4 : IntKind.i64.wrap ((u : Int) + (m : Int)) = (u : Int) + (m : Int) := by rw [IntKind.wrap_i64]; omega
    have hlu : u + m ≤ l.length := by omega
    have hcut0 := cut8_mid A l.length c u (u + m) (by omega) hlu HC.out.2.2
    have HD := C8_mid HC.out.1 HC.out.2.2 (show u ≤ u + m by omega) hlu
    generalize (if c = u then A else A.map (·.add u)) = A2 at hcut0 HD
    rw [show u + m - u = m by omega] at hcut0 HD
    have hcut : ∀ W : World, (Instr.slice 31 (.slice A l.length c) (some (.int .i64 (u : Int))) (some (.int .i64 ((u : Int) + (m : Int)))) none).run Try.prog W = .ok (.slice A2 m (c - u)) W := fun W => by
      have := hcut0 W
      rwa [Int.natCast_add] at this
    have hcv : (convert 31 9 (.slice A2 m (c - u))).run Try.prog w = .ok (.string (strOfNums ((l.drop u).take m))) w := by
      have := Kd.C_string (P := Try.prog) (c := c - u) Try.underlying31 Try.underlying5 Try.underlying9 HD
      rw [List.drop_take, show u + m - u = m by omega] at this
      exact this
    generalize strOfNums ((l.drop u).take m) = S at *
    clear hcut0 HD
    subst he
    go_wp2
    go_ret3
    rw [HP.out]
    exact ⟨by rw [HF.out]; simp, rfl⟩
end Go.Proofs.Ytfefpbnhpncmlaa.EntC
/- An entry's bytes, and Put: contracts. -/
namespace Go.Proofs.Ytfefpbnhpncmlaa.EntD
open Go.RowKit Go.Proofs.Ytfefpbnhpncmlaa.EntL Go.Proofs.Ytfefpbnhpncmlaa.EntB Go.Proofs.Ytfefpbnhpncmlaa.EntC Go.Proofs.Ytfefpbnhpncmlaa.CatK Go.Proofs.Ytfefpbnhpncmlaa.CatS Go.Proofs.Ytfefpbnhpncmlaa.CatY Go.Proofs.Ytfefpbnhpncmlaa.RefG Go.Proofs.Ytfefpbnhpncmlaa.PtrB Go.Proofs.Ytfefpbnhpncmlaa.PtrG Go.Proofs.Ytfefpbnhpncmlaa.Agg Go.Proofs.Ytfefpbnhpncmlaa.B8 Go.Proofs.Ytfefpbnhpncmlaa.CodL Go.Proofs.Ytfefpbnhpncmlaa.CodA Go.Proofs.Ytfefpbnhpncmlaa.CodB Go.Proofs.Ytfefpbnhpncmlaa.CatL Go.Proofs.Ytfefpbnhpncmlaa.PtrA Go.Proofs.Ytfefpbnhpncmlaa.PtrE Go.Proofs.Ytfefpbnhpncmlaa.PtrF Go.Proofs.Ytfefpbnhpncmlaa.PBaseSigns Go.Proofs.YtfefpbnhpncmlaaW.PrintWords Go.Proofs.YtfefpbnhpncmlaaW.PrintLast Go.Proofs.YtfefpbnhpncmlaaW.PrintMore
set_option linter.unusedVariables false
set_option linter.unusedSimpArgs false

/-- A row of bytes is told, to be read; its length has a name of its own. -/
def ReadsN (w : World) (l : List Int) (e : Ending) (w' : World) : Prop := ∃ A n c, e = .returned (.slice A n c) ∧ n = l.length ∧ n ≤ c ∧ C8 w' A n l ∧ Below w.heap.size w w'
theorem tells_n {w w' : World} {l : List Int} {e : Ending} (h : Tells w l e w') : ReadsN w l e w' := by
  obtain ⟨v, rfl, hr, hb⟩ := h
  obtain ⟨A, c, rfl, hle, hC⟩ := Kd.R_reads hr
  exact ⟨A, _, c, rfl, rfl, hle, hC, hb⟩
theorem short_n (A : Option Addr) (c n : Nat) (l : List Int) (hn : n = l.length) (x : Int) (w : World) (hr : C8 w A n l) (hm : n ≤ 900000) (h0 : 0 ≤ x) (h1 : x ≤ 1152921504606846976) :
    Calls Try.prog 89 #[.slice A n c, .int .u64 x] w (ReadsN w (l ++ shI x)) := by
  subst hn
  exact (short_at A c l.length l (l ++ shortL x.toNat) x.toNat x w rfl rfl (by omega) hr (by omega) (by omega)).mono fun e w' h => tells_n h
theorem rshort_n (A : Option Addr) (c n : Nat) (l : List Int) (hn : n = l.length) (x : Int) (w : World) (hr : C8 w A n l) (hm : n ≤ 900000) (h0 : 0 ≤ x) (h1 : x ≤ 1152921504606846976) :
    Calls Try.prog 58 #[.slice A n c, .int .u64 x] w (ReadsN w (l ++ shI x)) := by
  subst hn
  obtain ⟨k, rfl⟩ : ∃ k : Nat, x = (k : Int) := ⟨x.toNat, by omega⟩
  exact (RefB.rshort_calls A c l k w hr (by omega) (by omega)).mono fun e w' h => tells_n h
theorem text_n (A : Option Addr) (c n : Nat) (l : List Int) (hn : n = l.length) (s : ByteArray) (w : World) (hr : C8 w A n l) (hm : n ≤ 900000) (hs : s.size ≤ 10000) :
    Calls Try.prog 88 #[.slice A n c, .string s] w (ReadsN w (l ++ textL s)) := (text_calls A c n l hn s w hr hm hs).mono fun e w' h => tells_n h
theorem rtext_n (A : Option Addr) (c n : Nat) (l : List Int) (hn : n = l.length) (s : ByteArray) (w : World) (hr : C8 w A n l) (hm : n ≤ 900000) (hs : s.size ≤ 10000) :
    Calls Try.prog 69 #[.slice A n c, .string s] w (ReadsN w (l ++ textL s)) := (rtext_calls A c n l hn s w hr hm hs).mono fun e w' h => tells_n h
theorem put_n (A : Option Addr) (c n : Nat) (l : List Int) (hn : n = l.length) (q : Ptr) (hp : Lays q) (w : World) (hr : C8 w A n l) (hm : n ≤ 900000) :
    Calls Try.prog 104 #[.slice A n c, .agg (encP q)] w (ReadsN w (l ++ ptrL q)) := by
  subst hn
  exact (put_calls A c l q hp w hr (by omega)).mono fun e w' h => tells_n h
theorem rput_n (A : Option Addr) (c n : Nat) (l : List Int) (hn : n = l.length) (q : Ptr) (hp : Lays q) (w : World) (hr : C8 w A n l) (hm : n ≤ 900000) :
    Calls Try.prog 59 #[.slice A n c, .agg (encP q)] w (ReadsN w (l ++ ptrL q)) := by
  subst hn
  exact (RefD.rput_calls A c l q hp w hr (by omega)).mono fun e w' h => tells_n h
theorem flatI_len (ns : List Int) (h : ∀ x ∈ ns, 0 ≤ x ∧ x ≤ 1152921504606846976) : (ns.flatMap shI).length ≤ 10 * ns.length := by
  induction ns with
  | nil => simp
  | cons a ns ih =>
    have h1 := h a (by simp)
    have h2 := shI_len h1.1 h1.2
    have h3 := ih (fun x hx => h x (by simp [hx]))
    simp only [List.flatMap_cons, List.length_append, List.length_cons]
    omega

set_option maxRecDepth 100000 in
set_option maxHeartbeats 1000000 in
theorem shorts_calls (A : Option Addr) (c n : Nat) (l : List Int) (hn : n = l.length) (B : Option Addr) (d k : Nat) (ns : List Int) (hk : k = ns.length) (w : World) (hr : C8 w A n l) (hc : n ≤ c) (hm : n ≤ 800000) (hq : Kd.C (Kd.int .i64) w B k ns) (hk2 : k ≤ 10) (hx : ∀ x ∈ ns, 0 ≤ x ∧ x ≤ 1152921504606846976) :
    Calls Try.prog 103 #[.slice A n c, .slice B k d] w (ReadsN w (l ++ ns.flatMap shI)) := by
  have H0 := Aside0.mk (And.intro hr (And.intro hn hc))
  have HQ := Aside0.mk hq
  have HK := Aside0.mk (And.intro hk hx)
  clear hr hn hc hq hk hx
  go_enter Try.func103, Try.ntmps103
  go_wp2
  go_loopw [0, 9] (fun v0 v9 wr => ∃ (j : Nat) (A1 : Option Addr) (n1 c1 : Nat) (out : List Int), v0 = .slice A1 n1 c1 ∧ v9 = .int .i64 (j : Int) ∧ j ≤ k ∧ Aside0 (out = l ++ (ns.take j).flatMap shI) ∧ Aside0 (n1 = out.length ∧ n1 ≤ c1 ∧ C8 wr A1 n1 out ∧ Below w.heap.size w wr)) (fun _ v _ => k - (intOf v).toNat)
  case atStart => exact ⟨0, A, n, c, l, rfl, rfl, Nat.zero_le _, ⟨by simp⟩, ⟨H0.out.2.1, H0.out.2.2, H0.out.1, Below.refl _ _⟩⟩
  case round =>
    obtain ⟨j, A1, n1, c1, out, rfl, rfl, hj, ho, H⟩ := hrel
    have hlen : Aside0 (n1 ≤ 800000 + 100) := ⟨by
      rw [H.out.1, ho.out, List.length_append]
      have h1 := flatI_len (ns.take j) (fun x hx => HK.out.2 x (List.mem_of_mem_take hx))
      have h2 : (ns.take j).length ≤ 10 := by rw [List.length_take]; have := HK.out.1; omega
      have h3 := H0.out.2.1
      omega⟩
    by_cases hlt : j < k
    · obtain ⟨b, off, rfl, hb, hx⟩ := C_at 0 HQ.out (by omega)
      have hxj := (H.out.2.2.2.cell (p := ⟨b, off + j, none⟩) hb).trans (hx j hlt)
      have hin : j < ns.length := by rw [← HK.out.1]; exact hlt
      have hbd := HK.out.2 (ns.getD j 0) (by rw [List.getD, List.getElem?_eq_getElem hin]; exact List.getElem_mem _)
      have hsn : Aside0 ((ns.take (j + 1)).flatMap shI = (ns.take j).flatMap shI ++ shI (ns.getD j 0)) := ⟨by
        rw [List.take_add_one, List.flatMap_append]
        simp [hin, List.getD]⟩
      clear hx hin
      generalize ns.getD j 0 = x at *
      have hw := wraps_u64 x hbd.1 (by omega)
      go_wp2_with fail
      refine (short_n A1 c1 n1 out H.out.1 x wr H.out.2.2.1 (by have := hlen.out; omega) hbd.1 hbd.2).mono ?_
      rintro e w2 ⟨A2, n2, c2, rfl, hn2, hc2, hr2, hb2⟩
      have H2 := Aside0.mk (And.intro hn2 (And.intro hc2 (And.intro hr2 (below_then H.out.2.2.2 H.out.2.2.2.size hb2))))
      clear hn2 hc2 hr2 hb2
      go_wp2
      go_roundw
      case rel => exact ⟨j + 1, A2, n2, c2, _, rfl, by go_num, by omega, ⟨by rw [ho.out, hsn.out, List.append_assoc]⟩, H2⟩
      case measure => simp [intOf]; omega
    · obtain rfl : j = k := by omega
      go_wp2
      go_ret
      have h := ho.out
      rw [HK.out.1, List.take_length] at h
      rw [← h]
      exact ⟨A1, n1, c1, rfl, H.out.1, H.out.2.1, H.out.2.2.1, H.out.2.2.2⟩

theorem lays_of {q : Ptr} (h : Ok q) (hp : PlaceP q) : Lays q := ⟨h, hp.elim (fun h => .inr h) (fun h => .inl h)⟩
set_option maxRecDepth 100000 in
set_option maxHeartbeats 2000000 in
theorem ebytes_calls (e : Ent) (hk : OkE e) (he : RightE e) (w : World) : Calls Try.prog 68 #[.agg (encE e)] w (ReadsN w (entL e)) := by
  have B0 := Aside0.mk (below_alloc (Below.refl w.heap.size w) (.cells (encE e) 59))
  have G0 := Aside0.mk (blk_new w (.cells (encE e) 59))
  have HK := Aside0.mk (And.intro hk he)
  have hku : 0 ≤ e.kind ∧ e.kind ≤ 1152921504606846976 ∧ 0 ≤ e.owner ∧ e.owner ≤ 1152921504606846976 := by
    rcases he.kind with ⟨a, b⟩ | ⟨a, b⟩
    · omega
    · have := b.1; have := b.2; omega
  have HKU := Aside0.mk hku
  obtain ⟨l1, hl1⟩ : ∃ l, l = [] ++ [e.id, e.kind, e.owner].flatMap shI := ⟨_, rfl⟩
  obtain ⟨l2, hl2⟩ : ∃ l, l = l1 ++ textL e.name := ⟨_, rfl⟩
  obtain ⟨l3, hl3⟩ : ∃ l, l = l2 ++ ptrL e.root := ⟨_, rfl⟩
  obtain ⟨l4, hl4⟩ : ∃ l, l = l3 ++ ptrL e.dead := ⟨_, rfl⟩
  obtain ⟨l5, hl5⟩ : ∃ l, l = l4 ++ [e.born, e.prev, e.next, e.origin, e.clones].flatMap shI := ⟨_, rfl⟩
  have hL : l5 = entL e := by rw [hl5, hl4, hl3, hl2, hl1]; simp [entL]
  rw [← hL]
  have n1 : l1.length ≤ 30 := by rw [hl1]; have := flatI_len [e.id, e.kind, e.owner] (by intro x hx; simp at hx; have := he.id.1; have := he.id.2; rcases hx with rfl | rfl | rfl <;> omega); simpa using this
  have hgs := glen_ten (n := e.name.size) (by have := he.n1; omega)
  have n2 : l2.length ≤ 110 := by rw [hl2, List.length_append, textL, List.length_append, bytesOf_len]; have := he.n1; unfold glen at hgs; omega
  have n3 : l3.length ≤ 170 := by rw [hl3, List.length_append, ptrL_len hk.root]; omega
  have n4 : l4.length ≤ 230 := by rw [hl4, List.length_append, ptrL_len hk.dead]; omega
  have HL := Aside0.mk (And.intro hl1 (And.intro hl2 (And.intro hl3 (And.intro hl4 hl5))))
  have HN := Aside0.mk (And.intro n1 (And.intro n2 (And.intro n3 n4)))
  clear hL hl1 hl2 hl3 hl4 hl5 n1 n2 n3 n4 hgs hk he hku
  go_enter Try.func68, Try.ntmps68
  go_wp2_with fail
  generalize hW0 : w.alloc (.cells (encE e) 59) = W at *
  clear hW0
  refine wp_region_held_drew (S := fun w' => Below W.heap.size W w') (by kernel_rfl) (below_drew (Below.refl _ _)) (fun hW => ?_)
  refine wpAnyH_take (i := 0) (oi := ⟨some 4, _, _, _, _, _⟩) (v := .pointer (some ⟨w.heap.size, 0, none⟩)) rfl (by kernel_rfl) (by kernel_rfl) (by kernel_rfl) (fun _ _ _ h => h) (.inl ⟨by rfl, fun W1 h1 => by go_simp⟩) hW ?_
  try simp only [Act.put, List.setIfInBounds_toArray, List.set_cons_zero, List.set_cons_succ]
  refine wpAnyH_take (i := 1) (oi := ⟨some 5, _, _, _, _, _⟩) (v := .int .i64 e.id) rfl (by kernel_rfl) (by kernel_rfl) (by kernel_rfl) (fun _ _ _ h => h) (.inl ⟨by rfl, fun W1 h1 => by (have x9 := (ec_of (blk_below G0.out h1) HK.out.1).x0); go_simp⟩) hW ?_
  try simp only [Act.put, List.setIfInBounds_toArray, List.set_cons_zero, List.set_cons_succ]
  refine wpAnyH_take (i := 2) (oi := ⟨some 6, _, _, _, _, _⟩) (v := .pointer (some ⟨w.heap.size, 1, none⟩)) rfl (by kernel_rfl) (by kernel_rfl) (by kernel_rfl) (fun _ _ _ h => h) (.inl ⟨by rfl, fun W1 h1 => by go_simp⟩) hW ?_
  try simp only [Act.put, List.setIfInBounds_toArray, List.set_cons_zero, List.set_cons_succ]
  refine wpAnyH_take (i := 3) (oi := ⟨some 7, _, _, _, _, _⟩) (v := .int .i64 e.kind) rfl (by kernel_rfl) (by kernel_rfl) (by kernel_rfl) (fun _ _ _ h => h) (.inl ⟨by rfl, fun W1 h1 => by (have x9 := (ec_of (blk_below G0.out h1) HK.out.1).x1); go_simp⟩) hW ?_
  try simp only [Act.put, List.setIfInBounds_toArray, List.set_cons_zero, List.set_cons_succ]
  refine wpAnyH_take (i := 4) (oi := ⟨some 8, _, _, _, _, _⟩) (v := .pointer (some ⟨w.heap.size, 2, none⟩)) rfl (by kernel_rfl) (by kernel_rfl) (by kernel_rfl) (fun _ _ _ h => h) (.inl ⟨by rfl, fun W1 h1 => by go_simp⟩) hW ?_
  try simp only [Act.put, List.setIfInBounds_toArray, List.set_cons_zero, List.set_cons_succ]
  refine wpAnyH_take (i := 5) (oi := ⟨some 9, _, _, _, _, _⟩) (v := .int .i64 e.owner) rfl (by kernel_rfl) (by kernel_rfl) (by kernel_rfl) (fun _ _ _ h => h) (.inl ⟨by rfl, fun W1 h1 => by (have x9 := (ec_of (blk_below G0.out h1) HK.out.1).x2); go_simp⟩) hW ?_
  try simp only [Act.put, List.setIfInBounds_toArray, List.set_cons_zero, List.set_cons_succ]
  refine wpAnyH_take (i := 8) (oi := ⟨some 12, _, _, _, _, _⟩) (v := .pointer (some ⟨w.heap.size, 3, none⟩)) rfl (by kernel_rfl) (by kernel_rfl) (by kernel_rfl) (fun _ _ _ h => h) (.inl ⟨by rfl, fun W1 h1 => by go_simp⟩) hW ?_
  try simp only [Act.put, List.setIfInBounds_toArray, List.set_cons_zero, List.set_cons_succ]
  refine wpAnyH_take (i := 9) (oi := ⟨some 13, _, _, _, _, _⟩) (v := .string e.name) rfl (by kernel_rfl) (by kernel_rfl) (by kernel_rfl) (fun _ _ _ h => h) (.inl ⟨by rfl, fun W1 h1 => by (have x9 := (ec_of (blk_below G0.out h1) HK.out.1).x3); go_simp⟩) hW ?_
  try simp only [Act.put, List.setIfInBounds_toArray, List.set_cons_zero, List.set_cons_succ]
  refine wpAnyH_ready (rs := [6]) (by kernel_rfl) (by simp) (AllReadyH.cons rfl (fun K1 hK1 => ?_) AllReadyH.nil)
  go_simp
  have hWa : Below W.heap.size W ((World.alloc W (.cells #[.int .i64 e.id, .int .i64 e.kind, .int .i64 e.owner] 3)).drew) := below_drew (below_alloc (Below.refl _ _) _)
  have hCa : Kd.C (Kd.int .i64) ((World.alloc W (.cells #[.int .i64 e.id, .int .i64 e.kind, .int .i64 e.owner] 3)).drew) (some ⟨W.heap.size, 0, none⟩) 3 [e.id, e.kind, e.owner] := Kd.C_below (Ci_new W [e.id, e.kind, e.owner] 3 W.heap.size rfl (by simp)) (below_drew (Below.refl _ _))
  refine hK1.out _ _ hWa (fun hW => ?_)
  try simp only [Act.put, List.setIfInBounds_toArray, List.set_cons_zero, List.set_cons_succ]
  generalize hU : (World.alloc W (.cells #[.int .i64 e.id, .int .i64 e.kind, .int .i64 e.owner] 3)).drew = U at *
  clear hU
  refine wpAnyH_ready (rs := [7]) (by kernel_rfl) (by simp) (AllReadyH.cons rfl (fun K2 hK2 => ?_) AllReadyH.nil)
  go_simp
  refine (shorts_calls none 0 0 [] rfl (some ⟨W.heap.size, 0, none⟩) 3 3 [e.id, e.kind, e.owner] rfl _ (Kd.C_nil _ _) (Nat.le_refl _) (by decide) hCa (by decide) (by intro x hx; have := HK.out.2.id.1; have := HK.out.2.id.2; have := HKU.out; simp at hx; rcases hx with rfl | rfl | rfl <;> omega)).mono ?_
  rw [← HL.out.1]
  rintro e1 w1 ⟨A1, m1, c1, rfl, hm1_, hc1_, hr1, hb1⟩
  have hm1 := Aside0.mk hm1_
  have hc1 := Aside0.mk hc1_
  clear hm1_ hc1_
  have hW1 := below_then hW hW.size hb1
  refine hK2.out _ _ hW1 (fun hW => ?_)
  try simp only [Act.put, List.setIfInBounds_toArray, List.set_cons_zero, List.set_cons_succ]
  refine wpAnyH_ready (rs := [10]) (by kernel_rfl) (by simp) (AllReadyH.cons rfl (fun K3 hK3 => ?_) AllReadyH.nil)
  go_simp
  refine (text_n A1 c1 m1 l1 hm1.out e.name _ hr1 (by have := hm1.out; have := HN.out.1; omega) (by have := HK.out.2.n1; omega)).mono ?_
  rw [← HL.out.2.1]
  rintro e1 w2 ⟨A2, m2, c2, rfl, hm2_, hc2_, hr2, hb2⟩
  have hm2 := Aside0.mk hm2_
  have hc2 := Aside0.mk hc2_
  clear hm2_ hc2_
  have hW2 := below_then hW hW.size hb2
  refine hK3.out _ _ hW2 (fun hW => ?_)
  try simp only [Act.put, List.setIfInBounds_toArray, List.set_cons_zero, List.set_cons_succ]
  refine wpAnyH_take (i := 11) (oi := ⟨some 3, _, _, _, _, _⟩) (v := .slice A2 m2 c2) rfl (by kernel_rfl) (by kernel_rfl) (by kernel_rfl) (fun _ _ _ h => h) (.inl ⟨by rfl, fun W1 h1 => by go_simp⟩) hW ?_
  try simp only [Act.put, List.setIfInBounds_toArray, List.set_cons_zero, List.set_cons_succ]
  refine wpAnyH_done (by kernel_rfl) ?_ _
  have H2 := Aside0.mk (And.intro hm2.out (And.intro hc2.out (And.intro hr2 hW)))
  clear hK1 K1 hK2 K2 hK3 K3 hWa hCa hW1 hW2 hb1 hb2 hr1 hr2 hm1 hc1 hm2 hc2 hW
  go_wp2_with fail
  have B2 := Aside0.mk H2.out.2.2.2
  have G2 := Aside0.mk (blk_below G0.out B2.out)
  refine wp_region_held_drew (S := fun w' => Below w2.heap.size w2 w') (by kernel_rfl) (below_drew (Below.refl _ _)) (fun hW => ?_)
  refine wpAnyH_take (i := 0) (oi := ⟨some 15, _, _, _, _, _⟩) (v := .slice A2 m2 c2) rfl (by kernel_rfl) (by kernel_rfl) (by kernel_rfl) (fun _ _ _ h => h) (.inl ⟨by rfl, fun W1 h1 => by go_simp⟩) hW ?_
  try simp only [Act.put, List.setIfInBounds_toArray, List.set_cons_zero, List.set_cons_succ]
  refine wpAnyH_take (i := 1) (oi := ⟨some 16, _, _, _, _, _⟩) (v := .pointer (some ⟨w.heap.size, 4, none⟩)) rfl (by kernel_rfl) (by kernel_rfl) (by kernel_rfl) (fun _ _ _ h => h) (.inl ⟨by rfl, fun W1 h1 => by go_simp⟩) hW ?_
  try simp only [Act.put, List.setIfInBounds_toArray, List.set_cons_zero, List.set_cons_succ]
  refine wpAnyH_take (i := 2) (oi := ⟨some 17, _, _, _, _, _⟩) rfl (by kernel_rfl) (by kernel_rfl) (by kernel_rfl) (fun _ _ _ h => h) (yieldsIf_load_P (by rfl) _ rfl w.heap.size 4 e.root HK.out.1.root rfl (fun _ h => (ec_of (blk_below G2.out h) HK.out.1).root)) hW ?_
  try simp only [Act.put, List.setIfInBounds_toArray, List.set_cons_zero, List.set_cons_succ]
  refine wpAnyH_take (i := 4) (oi := ⟨some 19, _, _, _, _, _⟩) (v := .pointer (some ⟨w.heap.size, 40, none⟩)) rfl (by kernel_rfl) (by kernel_rfl) (by kernel_rfl) (fun _ _ _ h => h) (.inl ⟨by rfl, fun W1 h1 => by go_simp⟩) hW ?_
  try simp only [Act.put, List.setIfInBounds_toArray, List.set_cons_zero, List.set_cons_succ]
  refine wpAnyH_take (i := 5) (oi := ⟨some 20, _, _, _, _, _⟩) rfl (by kernel_rfl) (by kernel_rfl) (by kernel_rfl) (fun _ _ _ h => h) (yieldsIf_load_P (by rfl) _ rfl w.heap.size 40 e.dead HK.out.1.dead rfl (fun _ h => (ec_of (blk_below G2.out h) HK.out.1).dead)) hW ?_
  try simp only [Act.put, List.setIfInBounds_toArray, List.set_cons_zero, List.set_cons_succ]
  refine wpAnyH_ready (rs := [3]) (by kernel_rfl) (by simp) (AllReadyH.cons rfl (fun K4 hK4 => ?_) AllReadyH.nil)
  go_simp
  refine (put_n A2 c2 m2 l2 H2.out.1 e.root (lays_of HK.out.1.root HK.out.2.root) _ (Kd.C_below H2.out.2.2.1 hW) (by have := H2.out.1; have := HN.out.2.1; omega)).mono ?_
  rw [← HL.out.2.2.1]
  rintro e1 w3 ⟨A3, m3, c3, rfl, hm3_, hc3_, hr3, hb3⟩
  have hm3 := Aside0.mk hm3_
  have hc3 := Aside0.mk hc3_
  clear hm3_ hc3_
  have hW3 := below_then hW hW.size hb3
  refine hK4.out _ _ hW3 (fun hW => ?_)
  try simp only [Act.put, List.setIfInBounds_toArray, List.set_cons_zero, List.set_cons_succ]
  refine wpAnyH_ready (rs := [6]) (by kernel_rfl) (by simp) (AllReadyH.cons rfl (fun K5 hK5 => ?_) AllReadyH.nil)
  go_simp
  refine (put_n A3 c3 m3 l3 hm3.out e.dead (lays_of HK.out.1.dead HK.out.2.dead) _ hr3 (by have := hm3.out; have := HN.out.2.2.1; omega)).mono ?_
  rw [← HL.out.2.2.2.1]
  rintro e1 w4 ⟨A4, m4, c4, rfl, hm4_, hc4_, hr4, hb4⟩
  have hm4 := Aside0.mk hm4_
  have hc4 := Aside0.mk hc4_
  clear hm4_ hc4_
  have hW4 := below_then hW hW.size hb4
  refine hK5.out _ _ hW4 (fun hW => ?_)
  try simp only [Act.put, List.setIfInBounds_toArray, List.set_cons_zero, List.set_cons_succ]
  refine wpAnyH_take (i := 7) (oi := ⟨some 3, _, _, _, _, _⟩) (v := .slice A4 m4 c4) rfl (by kernel_rfl) (by kernel_rfl) (by kernel_rfl) (fun _ _ _ h => h) (.inl ⟨by rfl, fun W1 h1 => by go_simp⟩) hW ?_
  try simp only [Act.put, List.setIfInBounds_toArray, List.set_cons_zero, List.set_cons_succ]
  refine wpAnyH_done (by kernel_rfl) ?_ _
  have H4 := Aside0.mk (And.intro hm4.out (And.intro hc4.out (And.intro hr4 (below_then B2.out B2.out.size hW))))
  clear hK4 K4 hK5 K5 hW3 hW4 hb3 hb4 hr3 hr4 hm3 hc3 hm4 hc4 hW
  have G4 := Aside0.mk (blk_below G0.out H4.out.2.2.2)
  have E4 := Aside0.mk (ec_of G4.out HK.out.1)
  have x6 := E4.out.x6
  have x7 := E4.out.x7
  have x8 := E4.out.x8
  have x9 := E4.out.x9
  have x10 := E4.out.x10
  go_wp2_with fail
  refine (shorts_calls A4 c4 m4 l4 H4.out.1 (some ⟨w4.heap.size, 0, none⟩) 5 5 [e.born, e.prev, e.next, e.origin, e.clones] rfl _ (Kd.C_below H4.out.2.2.1 (below_alloc (Below.refl _ _) _)) H4.out.2.1 (by have := H4.out.1; have := HN.out.2.2.2; omega) (Ci_new w4 [e.born, e.prev, e.next, e.origin, e.clones] 3 w4.heap.size rfl (by simp)) (by decide) (by intro x hx; have a1 := HK.out.2.born; have a2 := HK.out.2.prev; have a3 := HK.out.2.next; have a4 := HK.out.2.origin; have a5 := HK.out.2.clones; simp at hx; rcases hx with rfl | rfl | rfl | rfl | rfl; exact ⟨a1.1, a1.2⟩; exact ⟨a2.1, a2.2⟩; exact ⟨a3.1, a3.2⟩; exact ⟨a4.1, a4.2⟩; exact ⟨a5.1, a5.2⟩)).mono ?_
  rw [← HL.out.2.2.2.2]
  rintro e1 w5 ⟨A5, m5, c5, rfl, hm5, hc5, hr5, hb5⟩
  have H5 := Aside0.mk (And.intro hm5 (And.intro hc5 (And.intro hr5 (below_then (below_alloc H4.out.2.2.2 _) (by have := H4.out.2.2.2.size; simp; omega) hb5))))
  clear hm5 hc5 hr5 hb5 x6 x7 x8 x9 x10
  go_wp2
  go_ret
  exact ⟨A5, m5, c5, rfl, H5.out.1, H5.out.2.1, H5.out.2.2.1, below_then B0.out B0.out.size H5.out.2.2.2⟩
end Go.Proofs.Ytfefpbnhpncmlaa.EntD
/- Put of an entry, and the document's: contracts. -/
namespace Go.Proofs.Ytfefpbnhpncmlaa.EntE
open Go.RowKit Go.Proofs.Ytfefpbnhpncmlaa.EntL Go.Proofs.Ytfefpbnhpncmlaa.EntB Go.Proofs.Ytfefpbnhpncmlaa.EntC Go.Proofs.Ytfefpbnhpncmlaa.EntD Go.Proofs.Ytfefpbnhpncmlaa.CatK Go.Proofs.Ytfefpbnhpncmlaa.CatS Go.Proofs.Ytfefpbnhpncmlaa.CatY Go.Proofs.Ytfefpbnhpncmlaa.RefG Go.Proofs.Ytfefpbnhpncmlaa.PtrB Go.Proofs.Ytfefpbnhpncmlaa.PtrG Go.Proofs.Ytfefpbnhpncmlaa.Agg Go.Proofs.Ytfefpbnhpncmlaa.B8 Go.Proofs.Ytfefpbnhpncmlaa.CodL Go.Proofs.Ytfefpbnhpncmlaa.CodA Go.Proofs.Ytfefpbnhpncmlaa.CodB Go.Proofs.Ytfefpbnhpncmlaa.CatL Go.Proofs.Ytfefpbnhpncmlaa.PtrA Go.Proofs.Ytfefpbnhpncmlaa.PtrE Go.Proofs.Ytfefpbnhpncmlaa.PtrF Go.Proofs.Ytfefpbnhpncmlaa.PBaseSigns Go.Proofs.YtfefpbnhpncmlaaW.PrintWords Go.Proofs.YtfefpbnhpncmlaaW.PrintLast Go.Proofs.YtfefpbnhpncmlaaW.PrintMore
set_option linter.unusedVariables false
set_option linter.unusedSimpArgs false

theorem i59 {e : Ent} (h : OkE e) : (Try.prog.info? 59).map (·.size) = some (encE e).size := by rw [encE_size h]; kernel_rfl
theorem i62 {e : Ent} (h : OkE e) : (Try.prog.info? 62).map (·.size) = some (encE e).size := by rw [encE_size h]; kernel_rfl
theorem u59 : Try.prog.underlying 59 = some (.struct (Try.prog.fieldsOf 59)) := by kernel_rfl
theorem u62 : Try.prog.underlying 62 = some (.struct (Try.prog.fieldsOf 62)) := by kernel_rfl
section
variable {ops : Array Oper} {o : Oper} {rest : List Oper} {a : Act} {w : World} {Q : Exit → Act → World → Prop}
theorem load_E (hgd : o.guard = none) (x : Operand) (ho : o.op = .load 59 x) (g : Nat) (e : Ent) (hx : a.eval x = .pointer (some ⟨g, 0, none⟩)) (hk : OkE e) (t : TypeId) (hg : w.heap[g]? = some (.cells (encE e) t (0, 0)))
    (h : wpList Try.prog ops Q rest (a.put o.dst (.agg (encE e))) w) : wpList Try.prog ops Q (o :: rest) a w :=
  wpList_load_row hgd 59 x ho g hx t (encE e) (0, 0) _ hg u59 rfl (i59 hk) h
theorem load_E2 (hgd : o.guard = none) (x : Operand) (ho : o.op = .load 62 x) (g : Nat) (e : Ent) (hx : a.eval x = .pointer (some ⟨g, 0, none⟩)) (hk : OkE e) (t : TypeId) (hg : w.heap[g]? = some (.cells (encE e) t (0, 0)))
    (h : wpList Try.prog ops Q rest (a.put o.dst (.agg (encE e))) w) : wpList Try.prog ops Q (o :: rest) a w :=
  wpList_load_row hgd 62 x ho g hx t (encE e) (0, 0) _ hg u62 rfl (i62 hk) h
end

/-- An entry's bytes are told, or none and a fault's number. -/
def TellsPutE (w : World) (e : Ent) (r : Ending) (w' : World) : Prop :=
  ∃ A n c, r = .returned (.tuple #[.slice A n c, .int .i64 (if RightE e then 0 else 2)]) ∧ n = (if RightE e then entL e else []).length ∧ n ≤ c ∧ C8 w' A n (if RightE e then entL e else []) ∧ Below w.heap.size w w'
set_option maxRecDepth 100000 in
set_option maxHeartbeats 1000000 in
theorem putE_calls (e : Ent) (hk : OkE e) (w : World) : Calls Try.prog 30 #[.agg (encE e)] w (TellsPutE w e) := by
  have B0 := Aside0.mk (below_alloc (Below.refl w.heap.size w) (.cells (encE e) 59))
  have G0 := Aside0.mk (blk_new w (.cells (encE e) 59))
  have HK := Aside0.mk hk
  obtain ⟨q, hq⟩ : ∃ q : Bool, q = decide (RightE e) := ⟨_, rfl⟩
  have HQ := Aside0.mk hq
  obtain ⟨P, hP⟩ : ∃ P : Ending → World → Prop, P = TellsPutE w e := ⟨_, rfl⟩
  rw [← hP]
  have HP := Aside0.mk hP
  clear hq hP hk
  go_enter Try.func30, Try.ntmps30
  go_wp2_with (refine load_E rfl (.tmp 1) rfl w.heap.size e rfl HK.out 59 G0.out ?_)
  refine (rightE_calls e HK.out _).mono ?_
  rw [← HQ.out]
  rintro r w1 ⟨rfl, hb1⟩
  have G1 := Aside0.mk (blk_below G0.out hb1)
  have B1 := Aside0.mk (below_then B0.out B0.out.size hb1)
  clear hb1
  by_cases hr : RightE e
  · have eq : q = true := by rw [HQ.out]; exact decide_eq_true hr
    subst eq
    have HR := Aside0.mk hr
    clear hr
    go_wp2_with (refine load_E rfl (.tmp 1) rfl w.heap.size e rfl HK.out 59 G1.out ?_)
    refine (ebytes_calls e HK.out HR.out _).mono ?_
    rintro r w2 ⟨A, n, c, rfl, hn, hc, hC, hb2⟩
    have H2 := Aside0.mk (And.intro hn (And.intro hc (And.intro hC (below_then B1.out B1.out.size hb2))))
    clear hn hc hC hb2
    go_wp2
    rw [HP.out]
    refine ⟨A, n, c, by rw [if_pos HR.out]; rfl, by rw [if_pos HR.out]; exact H2.out.1, H2.out.2.1, by rw [if_pos HR.out]; exact H2.out.2.2.1, H2.out.2.2.2⟩
  · have eq : q = false := by rw [HQ.out]; exact decide_eq_false hr
    subst eq
    have HR := Aside0.mk hr
    clear hr
    go_wp2
    rw [HP.out]
    refine ⟨none, 0, 0, by rw [if_neg HR.out]; rfl, by rw [if_neg HR.out]; rfl, Nat.le_refl _, by rw [if_neg HR.out]; exact Kd.C_nil _ _, B1.out⟩

set_option maxRecDepth 100000 in
set_option maxHeartbeats 2000000 in
theorem rputE_calls (e : Ent) (hk : OkE e) (w : World) : Calls Try.prog 31 #[.agg (encE e)] w (TellsPutE w e) := by
  have B0 := Aside0.mk (below_alloc (Below.refl w.heap.size w) (.cells (encE e) 62))
  have G0 := Aside0.mk (blk_new w (.cells (encE e) 62))
  have HK := Aside0.mk hk
  obtain ⟨q, hq⟩ : ∃ q : Bool, q = decide (RightE e) := ⟨_, rfl⟩
  have HQ := Aside0.mk hq
  obtain ⟨P, hP⟩ : ∃ P : Ending → World → Prop, P = TellsPutE w e := ⟨_, rfl⟩
  rw [← hP]
  have HP := Aside0.mk hP
  clear hq hP hk
  go_enter Try.func31, Try.ntmps31
  go_wp2_with (refine load_E2 rfl (.tmp 1) rfl w.heap.size e rfl HK.out 62 G0.out ?_)
  refine (rrightE_calls e HK.out _).mono ?_
  rw [← HQ.out]
  rintro r w1 ⟨rfl, hb1⟩
  have G1 := Aside0.mk (blk_below G0.out hb1)
  have B1 := Aside0.mk (below_then B0.out B0.out.size hb1)
  clear hb1 B0 G0
  by_cases hr : RightE e
  case neg =>
    have eq : q = false := by rw [HQ.out]; exact decide_eq_false hr
    subst eq
    have HR := Aside0.mk hr
    clear hr
    go_wp2
    rw [HP.out]
    refine ⟨none, 0, 0, by rw [if_neg HR.out]; rfl, by rw [if_neg HR.out]; rfl, Nat.le_refl _, by rw [if_neg HR.out]; exact Kd.C_nil _ _, B1.out⟩
  have eq : q = true := by rw [HQ.out]; exact decide_eq_true hr
  subst eq
  have HR := Aside0.mk hr
  have hku : 0 ≤ e.kind ∧ e.kind ≤ 1152921504606846976 ∧ 0 ≤ e.owner ∧ e.owner ≤ 1152921504606846976 := by
    rcases hr.kind with ⟨a, b⟩ | ⟨a, b⟩
    · omega
    · have := b.1; have := b.2; omega
  have HKU := Aside0.mk hku
  clear hr hku
  obtain ⟨l1, hl1⟩ : ∃ l, l = [] ++ shI e.id := ⟨_, rfl⟩
  obtain ⟨l2, hl2⟩ : ∃ l, l = l1 ++ shI e.kind := ⟨_, rfl⟩
  obtain ⟨l3, hl3⟩ : ∃ l, l = l2 ++ shI e.owner := ⟨_, rfl⟩
  obtain ⟨l4, hl4⟩ : ∃ l, l = l3 ++ textL e.name := ⟨_, rfl⟩
  obtain ⟨l5, hl5⟩ : ∃ l, l = l4 ++ ptrL e.root := ⟨_, rfl⟩
  obtain ⟨l6, hl6⟩ : ∃ l, l = l5 ++ ptrL e.dead := ⟨_, rfl⟩
  obtain ⟨l7, hl7⟩ : ∃ l, l = l6 ++ shI e.born := ⟨_, rfl⟩
  obtain ⟨l8, hl8⟩ : ∃ l, l = l7 ++ shI e.prev := ⟨_, rfl⟩
  obtain ⟨l9, hl9⟩ : ∃ l, l = l8 ++ shI e.next := ⟨_, rfl⟩
  obtain ⟨l10, hl10⟩ : ∃ l, l = l9 ++ shI e.origin := ⟨_, rfl⟩
  obtain ⟨l11, hl11⟩ : ∃ l, l = l10 ++ shI e.clones := ⟨_, rfl⟩
  have HL : Aside0 (l11 = entL e) := ⟨by rw [hl11, hl10, hl9, hl8, hl7, hl6, hl5, hl4, hl3, hl2, hl1]; simp [entL]⟩
  have n1 : l1.length ≤ 10 := by rw [hl1, List.length_append]; simp only [List.length_nil]; have := shI_len (by have := HR.out.id.1; omega) HR.out.id.2; omega
  have n2 : l2.length ≤ 20 := by rw [hl2, List.length_append]; have := shI_len HKU.out.1 HKU.out.2.1; omega
  have n3 : l3.length ≤ 30 := by rw [hl3, List.length_append]; have := shI_len HKU.out.2.2.1 HKU.out.2.2.2; omega
  have n4 : l4.length ≤ 110 := by rw [hl4, List.length_append]; have hgs := glen_ten (n := e.name.size) (by have := HR.out.n1; omega); rw [textL, List.length_append, bytesOf_len]; have := HR.out.n1; unfold glen at hgs; omega
  have n5 : l5.length ≤ 162 := by rw [hl5, List.length_append]; rw [ptrL_len HK.out.root]; omega
  have n6 : l6.length ≤ 214 := by rw [hl6, List.length_append]; rw [ptrL_len HK.out.dead]; omega
  have n7 : l7.length ≤ 224 := by rw [hl7, List.length_append]; have := shI_len HR.out.born.1 HR.out.born.2; omega
  have n8 : l8.length ≤ 234 := by rw [hl8, List.length_append]; have := shI_len HR.out.prev.1 HR.out.prev.2; omega
  have n9 : l9.length ≤ 244 := by rw [hl9, List.length_append]; have := shI_len HR.out.next.1 HR.out.next.2; omega
  have n10 : l10.length ≤ 254 := by rw [hl10, List.length_append]; have := shI_len HR.out.origin.1 HR.out.origin.2; omega
  have n11 : l11.length ≤ 264 := by rw [hl11, List.length_append]; have := shI_len HR.out.clones.1 HR.out.clones.2; omega
  have HN1 := Aside0.mk (And.intro hl1 n1)
  have HN2 := Aside0.mk (And.intro hl2 n2)
  have HN3 := Aside0.mk (And.intro hl3 n3)
  have HN4 := Aside0.mk (And.intro hl4 n4)
  have HN5 := Aside0.mk (And.intro hl5 n5)
  have HN6 := Aside0.mk (And.intro hl6 n6)
  have HN7 := Aside0.mk (And.intro hl7 n7)
  have HN8 := Aside0.mk (And.intro hl8 n8)
  have HN9 := Aside0.mk (And.intro hl9 n9)
  have HN10 := Aside0.mk (And.intro hl10 n10)
  have HN11 := Aside0.mk (And.intro hl11 n11)
  clear hl1 n1 hl2 n2 hl3 n3 hl4 n4 hl5 n5 hl6 n6 hl7 n7 hl8 n8 hl9 n9 hl10 n10 hl11 n11
  have E1 := Aside0.mk (ec_of G1.out HK.out)
  have x9 := E1.out.x0
  have hw := wraps_u64 e.id (by have := HR.out.id.1; omega) (by have := HR.out.id.2; omega)
  go_wp2_with fail
  refine (rshort_n none 0 0 [] rfl e.id _ (Kd.C_nil _ _) (by decide) (by have := HR.out.id.1; omega) HR.out.id.2).mono ?_
  rw [← HN1.out.1]
  rintro r w2 ⟨A1, m1, c1, rfl, hm, hc, hC, hb⟩
  have HM1 := Aside0.mk (And.intro hm (And.intro hc hC))
  have G2 := Aside0.mk (blk_below G1.out hb)
  have B2 := Aside0.mk (below_then B1.out B1.out.size hb)
  clear hm hc hC hb G1 B1 E1 x9 hw
  have E2 := Aside0.mk (ec_of G2.out HK.out)
  have x9 := E2.out.x1
  have hw := wraps_u64 e.kind HKU.out.1 (by have := HKU.out.2.1; omega)
  go_wp2_with fail
  refine (rshort_n A1 c1 m1 l1 HM1.out.1 e.kind _ HM1.out.2.2 (by have := HM1.out.1; have := HN1.out.2; omega) HKU.out.1 HKU.out.2.1).mono ?_
  rw [← HN2.out.1]
  rintro r w3 ⟨A2, m2, c2, rfl, hm, hc, hC, hb⟩
  have HM2 := Aside0.mk (And.intro hm (And.intro hc hC))
  have G3 := Aside0.mk (blk_below G2.out hb)
  have B3 := Aside0.mk (below_then B2.out B2.out.size hb)
  clear hm hc hC hb G2 B2 E2 x9 hw HM1
  have E3 := Aside0.mk (ec_of G3.out HK.out)
  have x9 := E3.out.x2
  have hw := wraps_u64 e.owner HKU.out.2.2.1 (by have := HKU.out.2.2.2; omega)
  go_wp2_with fail
  refine (rshort_n A2 c2 m2 l2 HM2.out.1 e.owner _ HM2.out.2.2 (by have := HM2.out.1; have := HN2.out.2; omega) HKU.out.2.2.1 HKU.out.2.2.2).mono ?_
  rw [← HN3.out.1]
  rintro r w4 ⟨A3, m3, c3, rfl, hm, hc, hC, hb⟩
  have HM3 := Aside0.mk (And.intro hm (And.intro hc hC))
  have G4 := Aside0.mk (blk_below G3.out hb)
  have B4 := Aside0.mk (below_then B3.out B3.out.size hb)
  clear hm hc hC hb G3 B3 E3 x9 hw HM2
  have E4 := Aside0.mk (ec_of G4.out HK.out)
  have x9 := E4.out.x3
  go_wp2_with fail
  refine (rtext_n A3 c3 m3 l3 HM3.out.1 e.name _ HM3.out.2.2 (by have := HM3.out.1; have := HN3.out.2; omega) (by have := HR.out.n1; omega)).mono ?_
  rw [← HN4.out.1]
  rintro r w5 ⟨A4, m4, c4, rfl, hm, hc, hC, hb⟩
  have HM4 := Aside0.mk (And.intro hm (And.intro hc hC))
  have G5 := Aside0.mk (blk_below G4.out hb)
  have B5 := Aside0.mk (below_then B4.out B4.out.size hb)
  clear hm hc hC hb G4 B4 E4 x9 HM3
  have E5 := Aside0.mk (ec_of G5.out HK.out)
  go_wp2_with (refine load_P rfl _ rfl w.heap.size 4 e.root rfl HK.out.root E5.out.root ?_)
  refine (rput_n A4 c4 m4 l4 HM4.out.1 e.root (lays_of HK.out.root HR.out.root) _ HM4.out.2.2 (by have := HM4.out.1; have := HN4.out.2; omega)).mono ?_
  rw [← HN5.out.1]
  rintro r w6 ⟨A5, m5, c5, rfl, hm, hc, hC, hb⟩
  have HM5 := Aside0.mk (And.intro hm (And.intro hc hC))
  have G6 := Aside0.mk (blk_below G5.out hb)
  have B6 := Aside0.mk (below_then B5.out B5.out.size hb)
  clear hm hc hC hb G5 B5 E5 HM4
  have E6 := Aside0.mk (ec_of G6.out HK.out)
  go_wp2_with (refine load_P rfl _ rfl w.heap.size 40 e.dead rfl HK.out.dead E6.out.dead ?_)
  refine (rput_n A5 c5 m5 l5 HM5.out.1 e.dead (lays_of HK.out.dead HR.out.dead) _ HM5.out.2.2 (by have := HM5.out.1; have := HN5.out.2; omega)).mono ?_
  rw [← HN6.out.1]
  rintro r w7 ⟨A6, m6, c6, rfl, hm, hc, hC, hb⟩
  have HM6 := Aside0.mk (And.intro hm (And.intro hc hC))
  have G7 := Aside0.mk (blk_below G6.out hb)
  have B7 := Aside0.mk (below_then B6.out B6.out.size hb)
  clear hm hc hC hb G6 B6 E6 HM5
  have E7 := Aside0.mk (ec_of G7.out HK.out)
  have x9 := E7.out.x6
  have hw := wraps_u64 e.born HR.out.born.1 (by have := HR.out.born.2; omega)
  go_wp2_with fail
  refine (rshort_n A6 c6 m6 l6 HM6.out.1 e.born _ HM6.out.2.2 (by have := HM6.out.1; have := HN6.out.2; omega) HR.out.born.1 HR.out.born.2).mono ?_
  rw [← HN7.out.1]
  rintro r w8 ⟨A7, m7, c7, rfl, hm, hc, hC, hb⟩
  have HM7 := Aside0.mk (And.intro hm (And.intro hc hC))
  have G8 := Aside0.mk (blk_below G7.out hb)
  have B8 := Aside0.mk (below_then B7.out B7.out.size hb)
  clear hm hc hC hb G7 B7 E7 x9 hw HM6
  have E8 := Aside0.mk (ec_of G8.out HK.out)
  have x9 := E8.out.x7
  have hw := wraps_u64 e.prev HR.out.prev.1 (by have := HR.out.prev.2; omega)
  go_wp2_with fail
  refine (rshort_n A7 c7 m7 l7 HM7.out.1 e.prev _ HM7.out.2.2 (by have := HM7.out.1; have := HN7.out.2; omega) HR.out.prev.1 HR.out.prev.2).mono ?_
  rw [← HN8.out.1]
  rintro r w9 ⟨A8, m8, c8, rfl, hm, hc, hC, hb⟩
  have HM8 := Aside0.mk (And.intro hm (And.intro hc hC))
  have G9 := Aside0.mk (blk_below G8.out hb)
  have B9 := Aside0.mk (below_then B8.out B8.out.size hb)
  clear hm hc hC hb G8 B8 E8 x9 hw HM7
  have E9 := Aside0.mk (ec_of G9.out HK.out)
  have x9 := E9.out.x8
  have hw := wraps_u64 e.next HR.out.next.1 (by have := HR.out.next.2; omega)
  go_wp2_with fail
  refine (rshort_n A8 c8 m8 l8 HM8.out.1 e.next _ HM8.out.2.2 (by have := HM8.out.1; have := HN8.out.2; omega) HR.out.next.1 HR.out.next.2).mono ?_
  rw [← HN9.out.1]
  rintro r w10 ⟨A9, m9, c9, rfl, hm, hc, hC, hb⟩
  have HM9 := Aside0.mk (And.intro hm (And.intro hc hC))
  have G10 := Aside0.mk (blk_below G9.out hb)
  have B10 := Aside0.mk (below_then B9.out B9.out.size hb)
  clear hm hc hC hb G9 B9 E9 x9 hw HM8
  have E10 := Aside0.mk (ec_of G10.out HK.out)
  have x9 := E10.out.x9
  have hw := wraps_u64 e.origin HR.out.origin.1 (by have := HR.out.origin.2; omega)
  go_wp2_with fail
  refine (rshort_n A9 c9 m9 l9 HM9.out.1 e.origin _ HM9.out.2.2 (by have := HM9.out.1; have := HN9.out.2; omega) HR.out.origin.1 HR.out.origin.2).mono ?_
  rw [← HN10.out.1]
  rintro r w11 ⟨A10, m10, c10, rfl, hm, hc, hC, hb⟩
  have HM10 := Aside0.mk (And.intro hm (And.intro hc hC))
  have G11 := Aside0.mk (blk_below G10.out hb)
  have B11 := Aside0.mk (below_then B10.out B10.out.size hb)
  clear hm hc hC hb G10 B10 E10 x9 hw HM9
  have E11 := Aside0.mk (ec_of G11.out HK.out)
  have x9 := E11.out.x10
  have hw := wraps_u64 e.clones HR.out.clones.1 (by have := HR.out.clones.2; omega)
  go_wp2_with fail
  refine (rshort_n A10 c10 m10 l10 HM10.out.1 e.clones _ HM10.out.2.2 (by have := HM10.out.1; have := HN10.out.2; omega) HR.out.clones.1 HR.out.clones.2).mono ?_
  rw [← HN11.out.1]
  rintro r w12 ⟨A11, m11, c11, rfl, hm, hc, hC, hb⟩
  have HM11 := Aside0.mk (And.intro hm (And.intro hc hC))
  have G12 := Aside0.mk (blk_below G11.out hb)
  have B12 := Aside0.mk (below_then B11.out B11.out.size hb)
  clear hm hc hC hb G11 B11 E11 x9 hw HM10
  go_wp2
  rw [HP.out]
  refine ⟨A11, m11, c11, by rw [if_pos HR.out]; rfl, by rw [if_pos HR.out, ← HL.out]; exact HM11.out.1, HM11.out.2.1, by rw [if_pos HR.out, ← HL.out]; exact HM11.out.2.2, B12.out⟩
end Go.Proofs.Ytfefpbnhpncmlaa.EntE
/- Reading an entry: plain laws; the reader's text: a contract. -/
namespace Go.Proofs.Ytfefpbnhpncmlaa.EntF
open Go.RowKit Go.Proofs.Ytfefpbnhpncmlaa.EntL Go.Proofs.Ytfefpbnhpncmlaa.EntB Go.Proofs.Ytfefpbnhpncmlaa.EntC Go.Proofs.Ytfefpbnhpncmlaa.EntD Go.Proofs.Ytfefpbnhpncmlaa.EntE Go.Proofs.Ytfefpbnhpncmlaa.CatR Go.Proofs.Ytfefpbnhpncmlaa.CatT Go.Proofs.Ytfefpbnhpncmlaa.CatU Go.Proofs.Ytfefpbnhpncmlaa.CatK Go.Proofs.Ytfefpbnhpncmlaa.CatS Go.Proofs.Ytfefpbnhpncmlaa.CatY Go.Proofs.Ytfefpbnhpncmlaa.RefG Go.Proofs.Ytfefpbnhpncmlaa.PtrB Go.Proofs.Ytfefpbnhpncmlaa.PtrG Go.Proofs.Ytfefpbnhpncmlaa.Agg Go.Proofs.Ytfefpbnhpncmlaa.B8 Go.Proofs.Ytfefpbnhpncmlaa.CodL Go.Proofs.Ytfefpbnhpncmlaa.CodA Go.Proofs.Ytfefpbnhpncmlaa.CodB Go.Proofs.Ytfefpbnhpncmlaa.CatL Go.Proofs.Ytfefpbnhpncmlaa.PtrA Go.Proofs.Ytfefpbnhpncmlaa.PtrE Go.Proofs.Ytfefpbnhpncmlaa.PtrF Go.Proofs.Ytfefpbnhpncmlaa.PBaseSigns Go.Proofs.YtfefpbnhpncmlaaW.PrintWords Go.Proofs.YtfefpbnhpncmlaaW.PrintLast Go.Proofs.YtfefpbnhpncmlaaW.PrintMore
set_option linter.unusedVariables false
set_option linter.unusedSimpArgs false

/-! ### An entry's cells, one part set anew -/
theorem set_id (e : Ent) (n : Int) : (encE e).setIfInBounds 0 (.int .i64 n) = encE { e with id := n } := by
  apply Array.toList_inj.1
  simp [encE, encP]
theorem set_kind (e : Ent) (n : Int) : (encE e).setIfInBounds 1 (.int .i64 n) = encE { e with kind := n } := by
  apply Array.toList_inj.1
  simp [encE, encP]
theorem set_owner (e : Ent) (n : Int) : (encE e).setIfInBounds 2 (.int .i64 n) = encE { e with owner := n } := by
  apply Array.toList_inj.1
  simp [encE, encP]
theorem set_name (e : Ent) (s : ByteArray) : (encE e).setIfInBounds 3 (.string s) = encE { e with name := s } := by
  apply Array.toList_inj.1
  simp [encE, encP]
theorem set_tail {e : Ent} (h : OkE e) (j : Nat) (v : Value) (hj : j < 5) : (encE e).setIfInBounds (76 + j) v = #[.int .i64 e.id, .int .i64 e.kind, .int .i64 e.owner, .string e.name] ++ encP e.root ++ encP e.dead ++ (#[Value.int .i64 e.born, .int .i64 e.prev, .int .i64 e.next, .int .i64 e.origin, .int .i64 e.clones] : Array Value).setIfInBounds j v := by
  have h1 := encP_size h.root.len
  have h2 := encP_size h.dead.len
  unfold encE
  rw [Array.setIfInBounds_append_right (by simp [h1, h2])]
  congr 2
  simp [h1, h2]
theorem set_born {e : Ent} (h : OkE e) (n : Int) : (encE e).setIfInBounds 76 (.int .i64 n) = encE { e with born := n } := by
  rw [show 76 = 76 + 0 from rfl, set_tail h 0 _ (by decide)]
  rfl
theorem set_prev {e : Ent} (h : OkE e) (n : Int) : (encE e).setIfInBounds 77 (.int .i64 n) = encE { e with prev := n } := by
  rw [show 77 = 76 + 1 from rfl, set_tail h 1 _ (by decide)]
  rfl
theorem set_next {e : Ent} (h : OkE e) (n : Int) : (encE e).setIfInBounds 78 (.int .i64 n) = encE { e with next := n } := by
  rw [show 78 = 76 + 2 from rfl, set_tail h 2 _ (by decide)]
  rfl
theorem set_origin {e : Ent} (h : OkE e) (n : Int) : (encE e).setIfInBounds 79 (.int .i64 n) = encE { e with origin := n } := by
  rw [show 79 = 76 + 3 from rfl, set_tail h 3 _ (by decide)]
  rfl
theorem set_clones {e : Ent} (h : OkE e) (n : Int) : (encE e).setIfInBounds 80 (.int .i64 n) = encE { e with clones := n } := by
  rw [show 80 = 76 + 4 from rfl, set_tail h 4 _ (by decide)]
  rfl
theorem lay_root {e : Ent} (h : OkE e) (q : Ptr) (hq : Ok q) (w : World) (g t : Nat) (hg : w.heap[g]? = some (.cells (encE e) t (0, 0))) : (w.setCells g 4 (encP q).toList).heap[g]? = some (.cells (encE { e with root := q }) t (0, 0)) := by
  obtain ⟨cur, h1, h2, h3⟩ := setCells_row (encP q).toList 4 w _ hg (by rw [enc_len hq, encE_size h]; decide)
  rw [h1]
  congr 2
  apply Array.toList_inj.1
  rw [h3, enc_len hq]
  have r1 := enc_len h.root
  have r2 := enc_len h.dead
  have e1 : (encE e).toList = [Value.int .i64 e.id, .int .i64 e.kind, .int .i64 e.owner, .string e.name] ++ ((encP e.root).toList ++ ((encP e.dead).toList ++ [.int .i64 e.born, .int .i64 e.prev, .int .i64 e.next, .int .i64 e.origin, .int .i64 e.clones])) := by simp [encE]
  have e2 : (encE { e with root := q }).toList = [Value.int .i64 e.id, .int .i64 e.kind, .int .i64 e.owner, .string e.name] ++ ((encP q).toList ++ ((encP e.dead).toList ++ [.int .i64 e.born, .int .i64 e.prev, .int .i64 e.next, .int .i64 e.origin, .int .i64 e.clones])) := by simp [encE]
  have e4 : [Value.int .i64 e.id, .int .i64 e.kind, .int .i64 e.owner, .string e.name].length = 4 := rfl
  rw [e1, e2, List.take_left' e4, ← List.drop_drop, List.drop_left' e4, List.drop_left' r1]
  simp
theorem lay_dead {e : Ent} (h : OkE e) (q : Ptr) (hq : Ok q) (w : World) (g t : Nat) (hg : w.heap[g]? = some (.cells (encE e) t (0, 0))) : (w.setCells g 40 (encP q).toList).heap[g]? = some (.cells (encE { e with dead := q }) t (0, 0)) := by
  obtain ⟨cur, h1, h2, h3⟩ := setCells_row (encP q).toList 40 w _ hg (by rw [enc_len hq, encE_size h]; decide)
  rw [h1]
  congr 2
  apply Array.toList_inj.1
  rw [h3, enc_len hq]
  have r1 := enc_len h.root
  have r2 := enc_len h.dead
  have e1 : (encE e).toList = ([Value.int .i64 e.id, .int .i64 e.kind, .int .i64 e.owner, .string e.name] ++ (encP e.root).toList) ++ ((encP e.dead).toList ++ [.int .i64 e.born, .int .i64 e.prev, .int .i64 e.next, .int .i64 e.origin, .int .i64 e.clones]) := by simp [encE]
  have e2 : (encE { e with dead := q }).toList = ([Value.int .i64 e.id, .int .i64 e.kind, .int .i64 e.owner, .string e.name] ++ (encP e.root).toList) ++ ((encP q).toList ++ [.int .i64 e.born, .int .i64 e.prev, .int .i64 e.next, .int .i64 e.origin, .int .i64 e.clones]) := by simp [encE]
  have e40 : ([Value.int .i64 e.id, .int .i64 e.kind, .int .i64 e.owner, .string e.name] ++ (encP e.root).toList).length = 40 := by rw [List.length_append, r1]; rfl
  rw [e1, e2, List.take_left' e40, ← List.drop_drop, List.drop_left' e40, List.drop_left' r2]
  simp
theorem there_of {e : Ent} (h : OkE e) (w : World) (g t o : Nat) (ho : o + 36 ≤ 81) (hg : w.heap[g]? = some (.cells (encE e) t (0, 0))) : w.there g o 36 := by
  intro j hj
  refine ⟨?_, frozen_of_row _ _ _ _ t hg⟩
  rw [cell_of_row _ _ (o + j) _ t (0, 0) hg, Array.getElem?_eq_getElem (by rw [encE_size h]; omega)]
  rfl

/-! ### Going along an entry -/
def t7 (e : Ent) : List Int := shI e.born ++ (shI e.prev ++ (shI e.next ++ (shI e.origin ++ (shI e.clones ++ []))))
def t4 (e : Ent) : List Int := textL e.name ++ (ptrL e.root ++ (ptrL e.dead ++ t7 e))
theorem entL_t4 (e : Ent) : entL e = shI e.id ++ (shI e.kind ++ (shI e.owner ++ t4 e)) := by simp [entL, t4, t7]
theorem kind_bd {e : Ent} (h : RightE e) : 0 ≤ e.kind ∧ e.kind ≤ 1152921504606846976 ∧ 0 ≤ e.owner ∧ e.owner ≤ 1152921504606846976 := by
  rcases h.kind with ⟨a, b⟩ | ⟨a, b⟩
  · omega
  · have := b.1; have := b.2; omega
theorem short_shI {n : Int} (h0 : 0 ≤ n) (h1 : n ≤ 1152921504606846976) (r : List Int) : readShort (shI n ++ r) = (n, (shI n).length, 0) := by
  have := readShort_shortL n.toNat (by omega) r
  rw [Int.toNat_of_nonneg h0] at this
  exact this
theorem badS_shI {n : Int} (h0 : 0 ≤ n) (h1 : n ≤ 1152921504606846976) (r : List Int) : badS (shI n ++ r) = false := by
  unfold badS
  rw [short_shI h0 h1]
  simp
  omega
theorem fin_shI {n : Int} (h0 : 0 ≤ n) (h1 : n ≤ 1152921504606846976) (r : List Int) (o : Nat) (offs : List Nat) (cs : Array Value) : fin (o :: offs) (shI n ++ r) cs = fin offs r (cs.setIfInBounds o (.int .i64 n)) := by
  simp only [fin]
  rw [badS_shI h0 h1, short_shI h0 h1]
  simp only [Bool.false_eq_true, if_false]
  rw [List.drop_left' rfl]
theorem fin_step (o : Nat) (offs : List Nat) (l : List Int) (cs : Array Value) : fin (o :: offs) l cs = if badS l then (cs, l, true) else fin offs (l.drop (readShort l).2.1) (cs.setIfInBounds o (.int .i64 (readShort l).1)) := rfl
theorem fin3 (l : List Int) (e : Ent) : ∃ (a b c : Int) (l' : List Int) (bad : Bool), fin [0, 1, 2] l (encE e) = (encE { e with id := a, kind := b, owner := c }, l', bad) := by
  simp only [fin]
  split
  · exact ⟨_, _, _, _, _, rfl⟩
  · rw [set_id]
    split
    · exact ⟨_, e.kind, e.owner, _, _, rfl⟩
    · rw [set_kind]
      split
      · exact ⟨_, _, e.owner, _, _, rfl⟩
      · rw [set_owner]
        exact ⟨_, _, _, _, _, rfl⟩
theorem fin5 (l : List Int) {e : Ent} (h : OkE e) : ∃ (a b c d f : Int) (l' : List Int) (bad : Bool), fin [76, 77, 78, 79, 80] l (encE e) = (encE { e with born := a, prev := b, next := c, origin := d, clones := f }, l', bad) := by
  rw [fin_step]
  split
  · exact ⟨_, _, _, _, _, _, _, rfl⟩
  rw [set_born h]
  generalize (readShort l).1 = n1
  generalize l.drop (readShort l).2.1 = l1
  rw [fin_step]
  split
  · exact ⟨_, e.prev, e.next, e.origin, e.clones, _, _, rfl⟩
  rw [set_prev (e := { e with born := n1 }) ⟨h.root, h.dead⟩]
  generalize (readShort l1).1 = n2
  generalize l1.drop (readShort l1).2.1 = l2
  rw [fin_step]
  split
  · exact ⟨_, _, e.next, e.origin, e.clones, _, _, rfl⟩
  rw [set_next (e := { e with born := n1, prev := n2 }) ⟨h.root, h.dead⟩]
  generalize (readShort l2).1 = n3
  generalize l2.drop (readShort l2).2.1 = l3
  rw [fin_step]
  split
  · exact ⟨_, _, _, e.origin, e.clones, _, _, rfl⟩
  rw [set_origin (e := { e with born := n1, prev := n2, next := n3 }) ⟨h.root, h.dead⟩]
  generalize (readShort l3).1 = n4
  generalize l3.drop (readShort l3).2.1 = l4
  rw [fin_step]
  split
  · exact ⟨_, _, _, _, e.clones, _, _, rfl⟩
  rw [set_clones (e := { e with born := n1, prev := n2, next := n3, origin := n4 }) ⟨h.root, h.dead⟩]
  exact ⟨_, _, _, _, _, _, _, rfl⟩

/-- Reading goes along an entry whose bytes these are: what has been read of it (f), what is left (t). -/
def GoesE (L : List Int) (f : Ent → Ent) (t : Ent → List Int) (l : List Int) (bad : Bool) (e : Ent) : Prop :=
  ∀ e0, OkE e0 → RightE e0 → entL e0 = L → bad = false ∧ e = f e0 ∧ l = t e0
def p3 (e0 : Ent) : Ent := { zeroE with id := e0.id, kind := e0.kind, owner := e0.owner }
def p4 (e0 : Ent) : Ent := { p3 e0 with name := e0.name }
def p5 (e0 : Ent) : Ent := { p4 e0 with root := e0.root }
def p6 (e0 : Ent) : Ent := { p5 e0 with dead := e0.dead }
theorem goes3 (L l' : List Int) (bad : Bool) (e' : Ent) (h : fin [0, 1, 2] L (encE zeroE) = (encE e', l', bad)) (he : ∃ a b c, e' = { zeroE with id := a, kind := b, owner := c }) : GoesE L p3 t4 l' bad e' := by
  intro e0 h1 h2 h3
  have hk := kind_bd h2
  rw [← h3, entL_t4, fin_shI (by have := h2.id.1; omega) h2.id.2, fin_shI hk.1 hk.2.1, fin_shI hk.2.2.1 hk.2.2.2] at h
  simp only [fin] at h
  rw [set_id, set_kind, set_owner] at h
  simp only [Prod.mk.injEq] at h
  obtain ⟨a, b, c, rfl⟩ := he
  have e1 := encE_0 { zeroE with id := e0.id, kind := e0.kind, owner := e0.owner }
  have e2 := encE_1 { zeroE with id := e0.id, kind := e0.kind, owner := e0.owner }
  have e3 := encE_2 { zeroE with id := e0.id, kind := e0.kind, owner := e0.owner }
  rw [h.1, encE_0] at e1
  rw [h.1, encE_1] at e2
  rw [h.1, encE_2] at e3
  simp at e1 e2 e3
  exact ⟨h.2.2.symm, by rw [e1, e2, e3]; rfl, h.2.1.symm⟩
theorem goes5 (L l l' : List Int) (bad bad' : Bool) (e e' : Ent) (hk : OkE e) (hg : GoesE L p6 t7 l bad e) (h : fin [76, 77, 78, 79, 80] l (encE e) = (encE e', l', bad')) (he : ∃ a b c d f, e' = { e with born := a, prev := b, next := c, origin := d, clones := f }) : GoesE L (fun e0 => e0) (fun _ => []) l' (bad || bad') e' := by
  intro e0 h1 h2 h3
  obtain ⟨g1, g2, g3⟩ := hg e0 h1 h2 h3
  rw [g3, t7, fin_shI h2.born.1 h2.born.2, fin_shI h2.prev.1 h2.prev.2, fin_shI h2.next.1 h2.next.2, fin_shI h2.origin.1 h2.origin.2, fin_shI h2.clones.1 h2.clones.2] at h
  simp only [fin] at h
  rw [set_born hk, set_prev (e := { e with born := e0.born }) ⟨hk.root, hk.dead⟩, set_next (e := { e with born := e0.born, prev := e0.prev }) ⟨hk.root, hk.dead⟩, set_origin (e := { e with born := e0.born, prev := e0.prev, next := e0.next }) ⟨hk.root, hk.dead⟩, set_clones (e := { e with born := e0.born, prev := e0.prev, next := e0.next, origin := e0.origin }) ⟨hk.root, hk.dead⟩] at h
  simp only [Prod.mk.injEq] at h
  obtain ⟨a, b, c, d, f, rfl⟩ := he
  have hk2 : OkE { e with born := e0.born, prev := e0.prev, next := e0.next, origin := e0.origin, clones := e0.clones } := ⟨hk.root, hk.dead⟩
  have hk3 : OkE { e with born := a, prev := b, next := c, origin := d, clones := f } := ⟨hk.root, hk.dead⟩
  have key : ∀ j, (#[Value.int .i64 e0.born, .int .i64 e0.prev, .int .i64 e0.next, .int .i64 e0.origin, .int .i64 e0.clones] : Array Value)[j]? = (#[Value.int .i64 a, .int .i64 b, .int .i64 c, .int .i64 d, .int .i64 f] : Array Value)[j]? := fun j => by
    have x1 := encE_tail hk2 j
    have x2 := encE_tail hk3 j
    rw [h.1] at x1
    exact x1.symm.trans x2
  have k0 := key 0
  have k1 := key 1
  have k2 := key 2
  have k3 := key 3
  have k4 := key 4
  simp at k0 k1 k2 k3 k4
  refine ⟨by rw [g1, ← h.2.2]; rfl, ?_, h.2.1.symm⟩
  rw [← k0, ← k1, ← k2, ← k3, ← k4, g2]
  rfl
end Go.Proofs.Ytfefpbnhpncmlaa.EntF
/- The reader's text: a contract. -/
namespace Go.Proofs.Ytfefpbnhpncmlaa.EntG
open Go.RowKit Go.Proofs.Ytfefpbnhpncmlaa.EntL Go.Proofs.Ytfefpbnhpncmlaa.EntB Go.Proofs.Ytfefpbnhpncmlaa.EntC Go.Proofs.Ytfefpbnhpncmlaa.EntD Go.Proofs.Ytfefpbnhpncmlaa.EntE Go.Proofs.Ytfefpbnhpncmlaa.EntF Go.Proofs.Ytfefpbnhpncmlaa.CatR Go.Proofs.Ytfefpbnhpncmlaa.CatT Go.Proofs.Ytfefpbnhpncmlaa.CatU Go.Proofs.Ytfefpbnhpncmlaa.CatK Go.Proofs.Ytfefpbnhpncmlaa.CatS Go.Proofs.Ytfefpbnhpncmlaa.CatY Go.Proofs.Ytfefpbnhpncmlaa.RefG Go.Proofs.Ytfefpbnhpncmlaa.PtrB Go.Proofs.Ytfefpbnhpncmlaa.PtrG Go.Proofs.Ytfefpbnhpncmlaa.Agg Go.Proofs.Ytfefpbnhpncmlaa.B8 Go.Proofs.Ytfefpbnhpncmlaa.CodL Go.Proofs.Ytfefpbnhpncmlaa.CodA Go.Proofs.Ytfefpbnhpncmlaa.CodB Go.Proofs.Ytfefpbnhpncmlaa.CatL Go.Proofs.Ytfefpbnhpncmlaa.PtrA Go.Proofs.Ytfefpbnhpncmlaa.PtrE Go.Proofs.Ytfefpbnhpncmlaa.PtrF Go.Proofs.Ytfefpbnhpncmlaa.PBaseSigns Go.Proofs.YtfefpbnhpncmlaaW.PrintWords Go.Proofs.YtfefpbnhpncmlaaW.PrintLast Go.Proofs.YtfefpbnhpncmlaaW.PrintMore
set_option linter.unusedVariables false
set_option linter.unusedSimpArgs false

/-- What the call of text leaves. -/
def TellsText (B : World) (g : Nat) (l : List Int) (bad : Bool) (w : World) (e : Ending) (w' : World) : Prop :=
  e = .returned (.string (readText l 63).1) ∧ RD B g (l.drop (readText l 63).2.1) (bad || decide ((readText l 63).2.2 ≠ 0)) w' ∧ KeepBut w w' g none
set_option maxRecDepth 100000 in
set_option maxHeartbeats 1000000 in
theorem rtextR_calls (B : World) (g : Nat) (l : List Int) (bad : Bool) (w : World) (h : RD B g l bad w) :
    Calls Try.prog 70 #[.pointer (some ⟨g, 0, none⟩)] w (TellsText B g l bad w) := by
  have H := Aside0.mk h
  obtain ⟨A, c, hC, hlc, hgk⟩ := h.blk
  have HC := Aside0.mk (And.intro hC hlc)
  have HGK := Aside0.mk hgk
  have hc0 : w.cell? ⟨g, 0, none⟩ = some (.slice A l.length c) := by rw [cell_of_row _ _ 0 _ 107 (0, 0) hgk]; rfl
  have hc1 : w.cell? ⟨g, 1, none⟩ = some (.bool bad) := by rw [cell_of_row _ _ 1 _ 107 (0, 0) hgk]; rfl
  have hf0 := frozen_of_row w g 0 _ 107 hgk
  have hf1 := frozen_of_row w g 1 _ 107 hgk
  obtain ⟨P, hP⟩ : ∃ P : Ending → World → Prop, P = TellsText B g l bad w := ⟨_, rfl⟩
  rw [← hP]
  have HP := Aside0.mk hP
  have hu := readText_used l 63
  obtain ⟨s, hs⟩ : ∃ s, s = (readText l 63).1 := ⟨_, rfl⟩
  obtain ⟨u, hu1⟩ : ∃ u, u = (readText l 63).2.1 := ⟨_, rfl⟩
  obtain ⟨er, her⟩ : ∃ er, er = (readText l 63).2.2 := ⟨_, rfl⟩
  have HX := Aside0.mk (And.intro hs (And.intro hu1 her))
  rw [← hu1] at hu
  have hcut := cut8_from A l.length c u hu
  have HD := Aside0.mk (C8_drop hC hlc hu)
  generalize (if c = u then A else A.map (·.add u)) = A2 at hcut HD
  have hbb : Aside0 (∀ b2 : Bool, b2 = (bad || decide (er ≠ 0)) → P (.returned (.string s)) ((w.setCell ⟨g, 1, none⟩ (.bool b2)).setCell ⟨g, 0, none⟩ (.slice A2 (l.length - u) (c - u)))) := ⟨fun b2 hb2 => by
    rw [hP]
    refine ⟨by rw [hs], ⟨(h.below.setCell h.g _).setCell h.g _, ⟨A2, c - u, ?_, ?_, ?_⟩, h.g, h.byt.drop _, ?_⟩, ((KeepBut.refl w g none).set_ 1 _).set_ 0 _⟩
    · rw [← hu1, List.length_drop]; exact HD.out
    · rw [← hu1, List.length_drop]; omega
    · rw [heap_setCell_same _ _ _ _ _ _ (heap_setCell_same _ _ _ _ _ _ hgk), ← hu1, List.length_drop, ← her, hb2]
      simp
    · rw [List.length_drop]; have := h.len; omega⟩
  clear h hC hlc hgk hP hs hu1 her
  go_enter Try.func70, Try.ntmps70
  go_wp2_with fail
  refine (readText_calls A c l.length l rfl w (Kd.C_below HC.out.1 H.out.below) H.out.byt HC.out.2 (by have := H.out.len; omega)).mono ?_
  rintro e w1 ⟨rfl, rfl⟩
  rw [← HX.out.1, ← HX.out.2.1, ← HX.out.2.2]
  by_cases he : er = 0
  · cases bad with
    | true =>
      have HE := Aside0.mk (hbb.out true (by simp))
      subst he
      go_wp2
      exact HE.out
    | false =>
      have HE := Aside0.mk (hbb.out false (by simp [he]))
      subst he
      go_wp2
      exact HE.out
  · have hbe : (er == 0) = false := by simp [he]
    have hbe2 : (er != 0) = true := by simp [he]
    have HE := Aside0.mk (hbb.out true (by simp [he]))
    clear he
    cases bad with
    | true =>
      go_wp2
      exact HE.out
    | false =>
      go_wp2
      exact HE.out
end Go.Proofs.Ytfefpbnhpncmlaa.EntG
/- Read of an entry: a contract. -/
namespace Go.Proofs.Ytfefpbnhpncmlaa.EntH
open Go.RowKit Go.Proofs.Ytfefpbnhpncmlaa.EntL Go.Proofs.Ytfefpbnhpncmlaa.EntB Go.Proofs.Ytfefpbnhpncmlaa.EntC Go.Proofs.Ytfefpbnhpncmlaa.EntD Go.Proofs.Ytfefpbnhpncmlaa.EntE Go.Proofs.Ytfefpbnhpncmlaa.EntF Go.Proofs.Ytfefpbnhpncmlaa.EntG Go.Proofs.Ytfefpbnhpncmlaa.CatR Go.Proofs.Ytfefpbnhpncmlaa.CatT Go.Proofs.Ytfefpbnhpncmlaa.CatU Go.Proofs.Ytfefpbnhpncmlaa.CatV Go.Proofs.Ytfefpbnhpncmlaa.CatK Go.Proofs.Ytfefpbnhpncmlaa.CatS Go.Proofs.Ytfefpbnhpncmlaa.CatY Go.Proofs.Ytfefpbnhpncmlaa.RefG Go.Proofs.Ytfefpbnhpncmlaa.PtrB Go.Proofs.Ytfefpbnhpncmlaa.PtrG Go.Proofs.Ytfefpbnhpncmlaa.Agg Go.Proofs.Ytfefpbnhpncmlaa.B8 Go.Proofs.Ytfefpbnhpncmlaa.CodL Go.Proofs.Ytfefpbnhpncmlaa.CodA Go.Proofs.Ytfefpbnhpncmlaa.CodB Go.Proofs.Ytfefpbnhpncmlaa.CatL Go.Proofs.Ytfefpbnhpncmlaa.PtrA Go.Proofs.Ytfefpbnhpncmlaa.PtrE Go.Proofs.Ytfefpbnhpncmlaa.PtrF Go.Proofs.Ytfefpbnhpncmlaa.PBaseSigns Go.Proofs.YtfefpbnhpncmlaaW.PrintWords Go.Proofs.YtfefpbnhpncmlaaW.PrintLast Go.Proofs.YtfefpbnhpncmlaaW.PrintMore
set_option linter.unusedVariables false
set_option linter.unusedSimpArgs false

/-- The entry of nothing, as cells. -/
abbrev Z59 : Array Value := #[.int .i64 0, .int .i64 0, .int .i64 0, .string ⟨#[]⟩, .int .i64 0, .int .i64 0, .int .i64 0, .int .u32 0, .int .u8 0, .int .u8 0, .int .u8 0, .int .u8 0, .int .u8 0, .int .u8 0, .int .u8 0, .int .u8 0, .int .u8 0, .int .u8 0, .int .u8 0, .int .u8 0, .int .u8 0, .int .u8 0, .int .u8 0, .int .u8 0, .int .u8 0, .int .u8 0, .int .u8 0, .int .u8 0, .int .u8 0, .int .u8 0, .int .u8 0, .int .u8 0, .int .u8 0, .int .u8 0, .int .u8 0, .int .u8 0, .int .u8 0, .int .u8 0, .int .u8 0, .int .u8 0, .int .i64 0, .int .i64 0, .int .i64 0, .int .u32 0, .int .u8 0, .int .u8 0, .int .u8 0, .int .u8 0, .int .u8 0, .int .u8 0, .int .u8 0, .int .u8 0, .int .u8 0, .int .u8 0, .int .u8 0, .int .u8 0, .int .u8 0, .int .u8 0, .int .u8 0, .int .u8 0, .int .u8 0, .int .u8 0, .int .u8 0, .int .u8 0, .int .u8 0, .int .u8 0, .int .u8 0, .int .u8 0, .int .u8 0, .int .u8 0, .int .u8 0, .int .u8 0, .int .u8 0, .int .u8 0, .int .u8 0, .int .u8 0, .int .i64 0, .int .i64 0, .int .i64 0, .int .i64 0, .int .i64 0]
theorem encZ : encE zeroE = Z59 := by kernel_rfl
theorem i59Z : (Try.prog.info? 59).map (·.size) = some Z59.size := by rw [← encZ]; exact i59 okZeroE
theorem a59Z : Z59.all (·.oneCell') = true := by rw [← encZ]; exact encE_one zeroE
/-- What reading an entry tells. -/
def TellsReadE (w : World) (L : List Int) (r : Ending) (w' : World) : Prop :=
  Below w.heap.size w w' ∧
  ((∃ e, r = .returned (.tuple #[.agg (encE e), .int .i64 0]) ∧ OkE e ∧ RightE e ∧ entL e = L) ∨
   (r = .returned (.tuple #[.agg (encE zeroE), .int .i64 11]) ∧ ∀ e0, OkE e0 → RightE e0 → entL e0 ≠ L))
/-- Where the walk stands. -/
structure IE (w : World) (g ge g2 : Nat) (l : List Int) (bad : Bool) (e : Ent) (W : World) : Prop where
  rd : RD w g l bad W
  he : W.heap[ge]? = some (.cells (encE e) 59 (0, 0))
  h2 : W.heap[g2]? = some (.cells (encE zeroE) 59 (0, 0))
  gle : w.heap.size ≤ ge
  ne : ge ≠ g ∧ g2 ≠ g ∧ g2 ≠ ge
  ok : OkE e
theorem IE.keep {w : World} {g ge g2 : Nat} {l l' : List Int} {bad bad' : Bool} {e : Ent} {W W1 : World} (h : IE w g ge g2 l bad e W) (hr : RD w g l' bad' W1) (hk : KeepBut W W1 g none) : IE w g ge g2 l' bad' e W1 :=
  ⟨hr, hk.blk h.he h.ne.1 (by simp), hk.blk h.h2 h.ne.2.1 (by simp), h.gle, h.ne, h.ok⟩
theorem IE.on {w : World} {g ge g2 : Nat} {l : List Int} {bad : Bool} {e : Ent} {W W1 : World} (h : IE w g ge g2 l bad e W) (hb : Below W.heap.size W W1) : IE w g ge g2 l bad e W1 :=
  ⟨h.rd.on hb, blk_below h.he hb, blk_below h.h2 hb, h.gle, h.ne, h.ok⟩
theorem IE.name {w : World} {g ge g2 : Nat} {l : List Int} {bad : Bool} {e : Ent} {W : World} (h : IE w g ge g2 l bad e W) (s : ByteArray) : IE w g ge g2 l bad { e with name := s } (W.setCell ⟨ge, 3, none⟩ (.string s)) := by
  refine ⟨h.rd.keep (h.rd.below.setCell h.gle _) (Below.heap_setCell _ _ _ _ (by simp; exact fun e => h.ne.1 e.symm)), ?_, blk_far h.h2 (by simp; exact h.ne.2.2) _, h.gle, h.ne, ⟨h.ok.root, h.ok.dead⟩⟩
  rw [heap_setCell_same _ _ _ _ _ _ h.he, set_name]
theorem below_setCells {B : Nat} {w W : World} (h : Below B w W) (ge o : Nat) (hge : B ≤ ge) (vs : List Value) : Below B w (W.setCells ge o vs) := by
  obtain ⟨s1, s2, s3, s4⟩ := setCells_same ge vs o W
  exact ⟨s1.trans h.os, s2.trans h.tape, s3.trans h.output, by rw [s4]; exact h.size, fun k hk => (setCells_far _ o k (by omega)).trans (h.block k hk)⟩
theorem IE.root {w : World} {g ge g2 : Nat} {l : List Int} {bad : Bool} {e : Ent} {W : World} (h : IE w g ge g2 l bad e W) (q : Ptr) (hq : Ok q) : IE w g ge g2 l bad { e with root := q } (W.setCells ge 4 (encP q).toList) :=
  ⟨h.rd.keep (below_setCells h.rd.below ge 4 h.gle _) (setCells_far _ 4 _ (fun e => h.ne.1 e.symm)), lay_root h.ok q hq _ _ _ h.he, (setCells_far _ 4 _ h.ne.2.2).trans h.h2, h.gle, h.ne, ⟨hq, h.ok.dead⟩⟩
theorem IE.dead {w : World} {g ge g2 : Nat} {l : List Int} {bad : Bool} {e : Ent} {W : World} (h : IE w g ge g2 l bad e W) (q : Ptr) (hq : Ok q) : IE w g ge g2 l bad { e with dead := q } (W.setCells ge 40 (encP q).toList) :=
  ⟨h.rd.keep (below_setCells h.rd.below ge 40 h.gle _) (setCells_far _ 40 _ (fun e => h.ne.1 e.symm)), lay_dead h.ok q hq _ _ _ h.he, (setCells_far _ 40 _ h.ne.2.2).trans h.h2, h.gle, h.ne, ⟨h.ok.root, hq⟩⟩
theorem IE.nums {w : World} {g ge g2 : Nat} {l l' : List Int} {bad bad' : Bool} {e e' : Ent} {W W1 : World} (h : IE w g ge g2 l bad e W) (hr : RD w g l' bad' W1) (he : W1.heap[ge]? = some (.cells (encE e') 59 (0, 0))) (hk : KeepBut W W1 g (some ge)) (hok : OkE e') : IE w g ge g2 l' bad' e' W1 :=
  ⟨hr, he, hk.blk h.h2 h.ne.2.1 (by simp; exact h.ne.2.2), h.gle, h.ne, hok⟩
theorem goes_name (L l : List Int) (bad : Bool) (e : Ent) (hg : GoesE L p3 t4 l bad e) : GoesE L p4 (fun e0 => ptrL e0.root ++ (ptrL e0.dead ++ t7 e0)) (l.drop (readText l 63).2.1) (bad || decide ((readText l 63).2.2 ≠ 0)) { e with name := (readText l 63).1 } := by
  intro e0 h1 h2 h3
  obtain ⟨g1, g2, g3⟩ := hg e0 h1 h2 h3
  have hr : readText l 63 = (e0.name, (textL e0.name).length, 0) := by rw [g3, t4]; exact readText_textL e0.name 63 h2.n1 (by decide) _
  rw [hr]
  refine ⟨by simp [g1], by rw [g2]; rfl, ?_⟩
  rw [g3, t4]
  exact List.drop_left' rfl
theorem goes_blk (L l : List Int) (bad : Bool) (e : Ent) (f : Ent → Ent) (q : Ent → Ptr) (t : Ent → List Int) (hq : ∀ e0, OkE e0 → RightE e0 → Lays (q e0)) (hg : GoesE L f (fun e0 => ptrL (q e0) ++ t e0) l bad e) (e0 : Ent) (h1 : OkE e0) (h2 : RightE e0) (h3 : entL e0 = L) :
    readP l = (q e0, 0) ∧ bad = false ∧ e = f e0 ∧ l.drop 52 = t e0 := by
  obtain ⟨g1, g2, g3⟩ := hg e0 h1 h2 h3
  have hl := hq e0 h1 h2
  refine ⟨by rw [g3]; exact readP_ptrL hl _, g1, g2, ?_⟩
  rw [g3]
  exact List.drop_left' (ptrL_len hl.1)
theorem goes_root (L l : List Int) (bad : Bool) (e : Ent) (hg : GoesE L p4 (fun e0 => ptrL e0.root ++ (ptrL e0.dead ++ t7 e0)) l bad e) : GoesE L p5 (fun e0 => ptrL e0.dead ++ t7 e0) (if (readP l).2 = 0 then l.drop 52 else l) (bad || decide ((readP l).2 ≠ 0)) { e with root := (readP l).1 } := by
  intro e0 h1 h2 h3
  obtain ⟨r1, r2, r3, r4⟩ := goes_blk L l bad e p4 (fun e0 => e0.root) _ (fun e0 a b => lays_of a.root b.root) hg e0 h1 h2 h3
  rw [r1]
  exact ⟨by simp [r2], by rw [r3]; rfl, by simpa using r4⟩
theorem goes_dead (L l : List Int) (bad : Bool) (e : Ent) (hg : GoesE L p5 (fun e0 => ptrL e0.dead ++ t7 e0) l bad e) : GoesE L p6 t7 (if (readP l).2 = 0 then l.drop 52 else l) (bad || decide ((readP l).2 ≠ 0)) { e with dead := (readP l).1 } := by
  intro e0 h1 h2 h3
  obtain ⟨r1, r2, r3, r4⟩ := goes_blk L l bad e p5 (fun e0 => e0.dead) _ (fun e0 a b => lays_of a.dead b.dead) hg e0 h1 h2 h3
  rw [r1]
  exact ⟨by simp [r2], by rw [r3]; rfl, by simpa using r4⟩

set_option maxRecDepth 100000 in
set_option maxHeartbeats 2000000 in
theorem readE_calls (A : Option Addr) (c n : Nat) (L : List Int) (hn : n = L.length) (w : World) (hr : C8 w A n L) (hb : Byt L) (hc : n ≤ c) (hm : n ≤ 10000) :
    Calls Try.prog 32 #[.slice A n c] w (TellsReadE w L) := by
  subst hn
  have HC := Aside0.mk (And.intro hr (And.intro hb hc))
  obtain ⟨P, hP⟩ : ∃ P : Ending → World → Prop, P = TellsReadE w L := ⟨_, rfl⟩
  rw [← hP]
  have HP := Aside0.mk hP
  obtain ⟨ka, kb, kc, l1, bad1, hf1⟩ := fin3 L zeroE
  have hg1 := goes3 L l1 bad1 _ hf1 ⟨ka, kb, kc, rfl⟩
  obtain ⟨e1, he1⟩ : ∃ e1 : Ent, e1 = { zeroE with id := ka, kind := kb, owner := kc } := ⟨_, rfl⟩
  rw [← he1] at hf1 hg1
  have hok1 : OkE e1 := by rw [he1]; exact ⟨okZero, okZero⟩
  rw [encZ] at hf1
  have HF := Aside0.mk (And.intro hf1 (And.intro hg1 hok1))
  have g0 := blk_new w (.cells Z59 59)
  have g1 := blk_new (w.alloc (.cells Z59 59)) (.cells #[.slice A L.length c, .bool false] 107)
  have g2 := blk_new ((w.alloc (.cells Z59 59)).alloc (.cells #[.slice A L.length c, .bool false] 107)) (.cells Z59 59)
  have g3 := blk_new (((w.alloc (.cells Z59 59)).alloc (.cells #[.slice A L.length c, .bool false] 107)).alloc (.cells Z59 59)) (.cells #[.pointer (some ⟨w.heap.size + 1 + 1, 0, none⟩), .pointer (some ⟨w.heap.size + 1 + 1, 1, none⟩), .pointer (some ⟨w.heap.size + 1 + 1, 2, none⟩)] 109)
  have s1 : (w.alloc (.cells Z59 59)).heap.size = w.heap.size + 1 := by simp
  have s2 : ((w.alloc (.cells Z59 59)).alloc (.cells #[.slice A L.length c, .bool false] 107)).heap.size = w.heap.size + 1 + 1 := by simp
  have s3 : (((w.alloc (.cells Z59 59)).alloc (.cells #[.slice A L.length c, .bool false] 107)).alloc (.cells Z59 59)).heap.size = w.heap.size + 1 + 1 + 1 := by simp
  rw [s1] at g1
  rw [s2] at g2
  rw [s3] at g3
  have B4 : Below w.heap.size w ((((w.alloc (.cells Z59 59)).alloc (.cells #[.slice A L.length c, .bool false] 107)).alloc (.cells Z59 59)).alloc (.cells #[.pointer (some ⟨w.heap.size + 1 + 1, 0, none⟩), .pointer (some ⟨w.heap.size + 1 + 1, 1, none⟩), .pointer (some ⟨w.heap.size + 1 + 1, 2, none⟩)] 109)) := ((((Below.refl w.heap.size w).alloc (Nat.le_refl _) _).alloc (by simp) _).alloc (by simp; omega) _).alloc (by simp; omega) _
  have h0 := blk_alloc (blk_alloc (blk_alloc g0 (.cells #[.slice A L.length c, .bool false] 107)) (.cells Z59 59)) (.cells #[.pointer (some ⟨w.heap.size + 1 + 1, 0, none⟩), .pointer (some ⟨w.heap.size + 1 + 1, 1, none⟩), .pointer (some ⟨w.heap.size + 1 + 1, 2, none⟩)] 109)
  have h1 := blk_alloc (blk_alloc g1 (.cells Z59 59)) (.cells #[.pointer (some ⟨w.heap.size + 1 + 1, 0, none⟩), .pointer (some ⟨w.heap.size + 1 + 1, 1, none⟩), .pointer (some ⟨w.heap.size + 1 + 1, 2, none⟩)] 109)
  have h2 := blk_alloc g2 (.cells #[.pointer (some ⟨w.heap.size + 1 + 1, 0, none⟩), .pointer (some ⟨w.heap.size + 1 + 1, 1, none⟩), .pointer (some ⟨w.heap.size + 1 + 1, 2, none⟩)] 109)
  have HB4 := Aside0.mk (And.intro B4 (And.intro h0 (And.intro h1 (And.intro h2 g3))))
  clear hr hb hc hP hf1 hg1 hok1 g0 g1 g2 g3 s1 s2 s3 B4 h0 h1 h2
  go_enter Try.func32, Try.ntmps32
  go_wp2_with fail
  refine (numbers_calls w (w.heap.size + 1) (w.heap.size + 1 + 1) (w.heap.size + 1 + 1 + 1) 3 59 [0, 1, 2] rfl L false Z59 _ ⟨HB4.out.1, ⟨A, c, HC.out.1, HC.out.2.2, HB4.out.2.2.1⟩, Nat.le_succ _, HC.out.2.1, by omega⟩ (by omega) HB4.out.2.2.2.1 (by omega) HB4.out.2.2.2.2 (by omega) (by omega) (by intro o ho; simp at ho; rcases ho with rfl | rfl | rfl <;> exact ⟨0, rfl⟩) (by decide)).mono ?_
  rintro r w1 ⟨rfl, hrd, hcells, hkeep⟩
  rw [HF.out.1] at hrd hcells
  have hIE : IE w (w.heap.size + 1) (w.heap.size + 1 + 1) w.heap.size l1 bad1 e1 w1 :=
    ⟨hrd, hcells, by rw [encZ]; exact hkeep.blk HB4.out.2.1 (by omega) (by simp; omega), by omega, ⟨by omega, by omega, by omega⟩, HF.out.2.2⟩
  have H1 := Aside0.mk hIE
  have GO1 := Aside0.mk HF.out.2.1
  clear hrd hcells hkeep hIE HB4
  generalize hG : w.heap.size + 1 = g at *
  generalize hGE : g + 1 = ge at *
  have HGG := Aside0.mk (And.intro hG hGE)
  clear hG hGE
  go_wp2_with fail
  refine (rtextR_calls w g l1 bad1 w1 H1.out.rd).mono ?_
  rintro r w2 ⟨rfl, hrd, hkeep⟩
  have H2 := Aside0.mk (H1.out.keep hrd hkeep)
  have GO2 := Aside0.mk (goes_name L l1 bad1 e1 GO1.out)
  clear hrd hkeep H1 GO1
  generalize (readText l1 63).1 = nm at *
  generalize l1.drop (readText l1 63).2.1 = l2 at *
  generalize (bad1 || decide ((readText l1 63).2.2 ≠ 0)) = bad2 at *
  have xn : w2.cell? ⟨ge, 3, none⟩ = some (.string e1.name) := by rw [cell_of_row _ _ 3 _ 59 (0, 0) H2.out.he]; exact encE_3 e1
  have fn := frozen_of_row w2 ge 3 _ 59 H2.out.he
  have H3 := Aside0.mk (H2.out.name nm)
  obtain ⟨e2, he2⟩ : ∃ e2 : Ent, e2 = { e1 with name := nm } := ⟨_, rfl⟩
  rw [← he2] at H3 GO2
  have HE2 := Aside0.mk he2
  clear he2
  go_wp2_with fail
  refine (block_calls w g l2 bad2 _ H3.out.rd).mono ?_
  rintro r w3 ⟨rfl, hrd, hkeep⟩
  have H4 := Aside0.mk (H3.out.keep hrd hkeep)
  have hok4 := Aside0.mk (readP_ok H3.out.rd.byt)
  have GO3 := Aside0.mk (goes_root L l2 bad2 e2 GO2.out)
  clear hrd hkeep H2 GO2 xn fn H3
  generalize (readP l2).1 = q1 at *
  generalize (if (readP l2).2 = 0 then l2.drop 52 else l2) = l3 at *
  generalize (bad2 || decide ((readP l2).2 ≠ 0)) = bad3 at *
  go_wp2_with fail
  refine (block_calls w g l3 bad3 _ H4.out.rd).mono ?_
  rintro r w4 ⟨rfl, hrd, hkeep⟩
  have H5 := Aside0.mk (H4.out.keep hrd hkeep)
  have hok5 := Aside0.mk (readP_ok H4.out.rd.byt)
  obtain ⟨e3, he3⟩ : ∃ e3 : Ent, e3 = { e2 with root := q1 } := ⟨_, rfl⟩
  rw [← he3] at GO3
  have GO4 := Aside0.mk (goes_dead L l3 bad3 e3 GO3.out)
  clear hrd hkeep H4 GO3
  generalize (readP l3).1 = q2 at *
  generalize (if (readP l3).2 = 0 then l3.drop 52 else l3) = l4 at *
  generalize (bad3 || decide ((readP l3).2 ≠ 0)) = bad4 at *
  have H6 := H5.out.root q1 hok4.out
  rw [← he3] at H6
  have H6 := Aside0.mk H6
  have H7 := H6.out.dead q2 hok5.out
  obtain ⟨e4, he4⟩ : ∃ e4 : Ent, e4 = { e3 with dead := q2 } := ⟨_, rfl⟩
  rw [← he4] at H7 GO4
  have H7 := Aside0.mk H7
  have HE4 := Aside0.mk (And.intro he3 he4)
  clear he3 he4
  have T1 := Aside0.mk (there_of H5.out.ok w4 ge 59 4 (by decide) H5.out.he)
  have T2 := Aside0.mk (there_of H6.out.ok _ ge 59 40 (by decide) H6.out.he)
  have q36 := Aside0.mk (And.intro (encP_size hok4.out.len) (encP_size hok5.out.len))
  have T1 := Aside0.mk (show w4.there ge 4 (encP q1).size by rw [q36.out.1]; exact T1.out)
  have T2 := Aside0.mk (show (w4.setCells ge 4 (encP q1).toList).there ge 40 (encP q2).size by rw [q36.out.2]; exact T2.out)
  have si1 := si hok4.out.len
  have si2 := si hok5.out.len
  go_wp2_with (first | (refine wpList_store_mid rfl 56 (.tmp 22) (.tmp 19) rfl ge 4 (encP q1) rfl rfl T1.out si1 (PtrJ.a_enc q1) ?_) | (refine wpList_store_mid rfl 56 (.tmp 23) (.tmp 21) rfl ge 40 (encP q2) rfl rfl T2.out si2 (PtrJ.a_enc q2) ?_))
  generalize (w4.setCells ge 4 (encP q1).toList).setCells ge 40 (encP q2).toList = W7 at *
  clear T1 T2 H5 H6 si1 si2
  obtain ⟨k1, k2, k3, k4, k5, l5, bad5, hf5⟩ := fin5 l4 H7.out.ok
  have GO5 := goes5 L l4 l5 bad4 bad5 e4 _ H7.out.ok GO4.out hf5 ⟨k1, k2, k3, k4, k5, rfl⟩
  have hok5' : OkE { e4 with born := k1, prev := k2, next := k3, origin := k4, clones := k5 } := ⟨H7.out.ok.root, H7.out.ok.dead⟩
  obtain ⟨e5, he5⟩ : ∃ e5 : Ent, e5 = { e4 with born := k1, prev := k2, next := k3, origin := k4, clones := k5 } := ⟨_, rfl⟩
  rw [← he5] at hf5 GO5 hok5'
  have H8 := Aside0.mk (H7.out.on (below_alloc (Below.refl W7.heap.size W7) (.cells #[.pointer (some ⟨ge, 76, none⟩), .pointer (some ⟨ge, 77, none⟩), .pointer (some ⟨ge, 78, none⟩), .pointer (some ⟨ge, 79, none⟩), .pointer (some ⟨ge, 80, none⟩)] 109)))
  have GP := Aside0.mk (blk_new W7 (.cells #[.pointer (some ⟨ge, 76, none⟩), .pointer (some ⟨ge, 77, none⟩), .pointer (some ⟨ge, 78, none⟩), .pointer (some ⟨ge, 79, none⟩), .pointer (some ⟨ge, 80, none⟩)] 109))
  have HF5 := Aside0.mk (And.intro hf5 (And.intro GO5 hok5'))
  have hgl := Aside0.mk (And.intro H7.out.rd.lt (blk_lt H7.out.he))
  clear hf5 GO5 hok5' he5
  refine (numbers_calls w g ge W7.heap.size 5 59 [76, 77, 78, 79, 80] rfl l4 bad4 (encE e4) _ H8.out.rd H8.out.gle H8.out.he (fun h => H8.out.ne.1 h.symm) GP.out (by have := hgl.out.1; omega) (by have := hgl.out.2; omega) (by intro o ho; simp at ho; rcases ho with rfl | rfl | rfl | rfl | rfl; exact ⟨_, encE_tail H7.out.ok 0⟩; exact ⟨_, encE_tail H7.out.ok 1⟩; exact ⟨_, encE_tail H7.out.ok 2⟩; exact ⟨_, encE_tail H7.out.ok 3⟩; exact ⟨_, encE_tail H7.out.ok 4⟩) (by decide)).mono ?_
  rintro r w5 ⟨rfl, hrd, hcells, hkeep⟩
  rw [HF5.out.1] at hrd hcells
  have H9 := Aside0.mk (H8.out.nums hrd hcells hkeep HF5.out.2.2)
  clear hrd hcells hkeep H7 H8 GP GO4
  have GO9 := Aside0.mk HF5.out.2.1
  generalize hB9 : (bad4 || bad5) = bad9 at *
  clear hB9 HF5
  obtain ⟨A9, c9, hC9, hlc9, hg9⟩ := H9.out.rd.blk
  have HG9 := Aside0.mk hg9
  have h2Z := Aside0.mk (show w5.heap[w.heap.size]? = some (.cells Z59 59 (0, 0)) by rw [← encZ]; exact H9.out.h2)
  have HI := Aside0.mk (And.intro (i59 H9.out.ok) (encE_one e5))
  clear hC9 hlc9 hg9 hgl
  have hsz9 : Aside0 (Z59.size = (encE e5).size) := ⟨by rw [encE_size H9.out.ok]; rfl⟩
  go_wp2_with fail
  refine wp_region_held_drew (S := fun w' => Below w5.heap.size w5 w') (by kernel_rfl) (below_drew (Below.refl _ _)) (fun hW => ?_)
  cases hbb : bad9 with
  | true =>
    subst hbb
    refine wpAnyH_take (i := 0) (oi := ⟨some 32, _, _, _, _, _⟩) (v := .pointer (some ⟨g, 0, none⟩)) rfl (by kernel_rfl) (by kernel_rfl) (by kernel_rfl) (fun _ _ _ h => h) (.inl ⟨by rfl, fun W1 h1 => by go_simp⟩) hW ?_
    try simp only [Act.put, List.setIfInBounds_toArray, List.set_cons_zero, List.set_cons_succ]
    refine wpAnyH_take (i := 1) (oi := ⟨some 33, _, _, _, _, _⟩) (v := .pointer (some ⟨g, 0, none⟩)) rfl (by kernel_rfl) (by kernel_rfl) (by kernel_rfl) (fun _ _ _ h => h) (.inl ⟨by rfl, fun W1 h1 => by go_simp⟩) hW ?_
    try simp only [Act.put, List.setIfInBounds_toArray, List.set_cons_zero, List.set_cons_succ]
    refine wpAnyH_take (i := 2) (oi := ⟨some 34, _, _, _, _, _⟩) (v := .pointer (some ⟨g, 1, none⟩)) rfl (by kernel_rfl) (by kernel_rfl) (by kernel_rfl) (fun _ _ _ h => h) (.inl ⟨by rfl, fun W1 h1 => by go_simp⟩) hW ?_
    try simp only [Act.put, List.setIfInBounds_toArray, List.set_cons_zero, List.set_cons_succ]
    refine wpAnyH_take (i := 3) (oi := ⟨some 35, _, _, _, _, _⟩) (v := .bool true) rfl (by kernel_rfl) (by kernel_rfl) (by kernel_rfl) (fun _ _ _ h => h) (.inl ⟨by rfl, fun W1 h1 => by (have x1 : W1.cell? ⟨g, 1, none⟩ = some (.bool true) := (by rw [cell_of_row _ _ 1 _ 107 (0, 0) (blk_below HG9.out h1)]; rfl)); go_simp⟩) hW ?_
    try simp only [Act.put, List.setIfInBounds_toArray, List.set_cons_zero, List.set_cons_succ]
    refine wpAnyH_take (i := 4) (oi := ⟨some 36, _, _, _, _, _⟩) (v := .bool true) rfl (by kernel_rfl) (by kernel_rfl) (by kernel_rfl) (fun _ _ _ h => h) (.inl ⟨by rfl, fun W1 h1 => by go_simp⟩) hW ?_
    try simp only [Act.put, List.setIfInBounds_toArray, List.set_cons_zero, List.set_cons_succ]
    refine wpAnyH_take (i := 5) (oi := ⟨some 37, _, _, _, _, _⟩) (v := undef) rfl (by kernel_rfl) (by kernel_rfl) (by kernel_rfl) (fun _ _ _ h => h) (.inr ⟨by rfl, rfl⟩) hW ?_
    try simp only [Act.put, List.setIfInBounds_toArray, List.set_cons_zero, List.set_cons_succ]
    refine wpAnyH_take (i := 6) (oi := ⟨some 38, _, _, _, _, _⟩) (v := undef) rfl (by kernel_rfl) (by kernel_rfl) (by kernel_rfl) (fun _ _ _ h => h) (.inr ⟨by rfl, rfl⟩) hW ?_
    try simp only [Act.put, List.setIfInBounds_toArray, List.set_cons_zero, List.set_cons_succ]
    refine wpAnyH_take (i := 7) (oi := ⟨some 39, _, _, _, _, _⟩) (v := undef) rfl (by kernel_rfl) (by kernel_rfl) (by kernel_rfl) (fun _ _ _ h => h) (.inr ⟨by rfl, rfl⟩) hW ?_
    try simp only [Act.put, List.setIfInBounds_toArray, List.set_cons_zero, List.set_cons_succ]
    refine wpAnyH_take (i := 8) (oi := ⟨some 40, _, _, _, _, _⟩) (v := .bool true) rfl (by kernel_rfl) (by kernel_rfl) (by kernel_rfl) (fun _ _ _ h => h) (.inl ⟨by rfl, fun W1 h1 => by go_simp⟩) hW ?_
    try simp only [Act.put, List.setIfInBounds_toArray, List.set_cons_zero, List.set_cons_succ]
    refine wpAnyH_take (i := 9) (oi := ⟨some 41, _, _, _, _, _⟩) (v := .bool true) rfl (by kernel_rfl) (by kernel_rfl) (by kernel_rfl) (fun _ _ _ h => h) (.inl ⟨by rfl, fun W1 h1 => by go_simp⟩) hW ?_
    try simp only [Act.put, List.setIfInBounds_toArray, List.set_cons_zero, List.set_cons_succ]
    refine wpAnyH_take (i := 10) (oi := ⟨some 42, _, _, _, _, _⟩) (v := undef) rfl (by kernel_rfl) (by kernel_rfl) (by kernel_rfl) (fun _ _ _ h => h) (.inr ⟨by rfl, rfl⟩) hW ?_
    try simp only [Act.put, List.setIfInBounds_toArray, List.set_cons_zero, List.set_cons_succ]
    refine wpAnyH_take (i := 11) (oi := ⟨some 43, _, _, _, _, _⟩) (v := undef) rfl (by kernel_rfl) (by kernel_rfl) (by kernel_rfl) (fun _ _ _ h => h) (.inr ⟨by rfl, rfl⟩) hW ?_
    try simp only [Act.put, List.setIfInBounds_toArray, List.set_cons_zero, List.set_cons_succ]
    refine wpAnyH_take (i := 12) (oi := ⟨some 44, _, _, _, _, _⟩) (v := undef) rfl (by kernel_rfl) (by kernel_rfl) (by kernel_rfl) (fun _ _ _ h => h) (.inr ⟨by rfl, rfl⟩) hW ?_
    try simp only [Act.put, List.setIfInBounds_toArray, List.set_cons_zero, List.set_cons_succ]
    refine wpAnyH_take (i := 13) (oi := ⟨some 45, _, _, _, _, _⟩) (v := undef) rfl (by kernel_rfl) (by kernel_rfl) (by kernel_rfl) (fun _ _ _ h => h) (.inr ⟨by rfl, rfl⟩) hW ?_
    try simp only [Act.put, List.setIfInBounds_toArray, List.set_cons_zero, List.set_cons_succ]
    refine wpAnyH_take (i := 14) (oi := ⟨some 46, _, _, _, _, _⟩) (v := undef) rfl (by kernel_rfl) (by kernel_rfl) (by kernel_rfl) (fun _ _ _ h => h) (.inr ⟨by rfl, rfl⟩) hW ?_
    try simp only [Act.put, List.setIfInBounds_toArray, List.set_cons_zero, List.set_cons_succ]
    refine wpAnyH_take (i := 15) (oi := ⟨some 47, _, _, _, _, _⟩) (v := undef) rfl (by kernel_rfl) (by kernel_rfl) (by kernel_rfl) (fun _ _ _ h => h) (.inr ⟨by rfl, rfl⟩) hW ?_
    try simp only [Act.put, List.setIfInBounds_toArray, List.set_cons_zero, List.set_cons_succ]
    refine wpAnyH_take (i := 16) (oi := ⟨some 48, _, _, _, _, _⟩) (v := .bool true) rfl (by kernel_rfl) (by kernel_rfl) (by kernel_rfl) (fun _ _ _ h => h) (.inl ⟨by rfl, fun W1 h1 => by go_simp⟩) hW ?_
    try simp only [Act.put, List.setIfInBounds_toArray, List.set_cons_zero, List.set_cons_succ]
    refine wpAnyH_done (by kernel_rfl) ?_ _
    have B9 := Aside0.mk (below_then H9.out.rd.below H9.out.rd.below.size hW)
    have z9 := Aside0.mk (blk_below h2Z.out hW)
    have e9 := Aside0.mk (blk_below H9.out.he hW)
    clear hW
    go_wp2_with (refine wpList_store_same rfl 59 (.tmp 2) (.tmp 49) rfl w.heap.size Z59 rfl rfl 59 z9.out i59Z a59Z ?_)
    refine bodyPost_ret (res_ct (p := 2) (q := 3) _ rfl rfl z9.out u59 rfl i59Z) rfl ?_
    rw [HP.out]
    refine ⟨B9.out, .inr ⟨by rw [encZ]; rfl, fun v0 a0 a1 a2 => ?_⟩⟩
    obtain ⟨g1, g2, g3⟩ := GO9.out v0 a0 a1 a2
    exact absurd g1 (by decide)
  | false =>
    subst hbb
    refine wpAnyH_take (i := 0) (oi := ⟨some 32, _, _, _, _, _⟩) (v := .pointer (some ⟨g, 0, none⟩)) rfl (by kernel_rfl) (by kernel_rfl) (by kernel_rfl) (fun _ _ _ h => h) (.inl ⟨by rfl, fun W1 h1 => by go_simp⟩) hW ?_
    try simp only [Act.put, List.setIfInBounds_toArray, List.set_cons_zero, List.set_cons_succ]
    refine wpAnyH_take (i := 1) (oi := ⟨some 33, _, _, _, _, _⟩) (v := .pointer (some ⟨g, 0, none⟩)) rfl (by kernel_rfl) (by kernel_rfl) (by kernel_rfl) (fun _ _ _ h => h) (.inl ⟨by rfl, fun W1 h1 => by go_simp⟩) hW ?_
    try simp only [Act.put, List.setIfInBounds_toArray, List.set_cons_zero, List.set_cons_succ]
    refine wpAnyH_take (i := 2) (oi := ⟨some 34, _, _, _, _, _⟩) (v := .pointer (some ⟨g, 1, none⟩)) rfl (by kernel_rfl) (by kernel_rfl) (by kernel_rfl) (fun _ _ _ h => h) (.inl ⟨by rfl, fun W1 h1 => by go_simp⟩) hW ?_
    try simp only [Act.put, List.setIfInBounds_toArray, List.set_cons_zero, List.set_cons_succ]
    refine wpAnyH_take (i := 3) (oi := ⟨some 35, _, _, _, _, _⟩) (v := .bool false) rfl (by kernel_rfl) (by kernel_rfl) (by kernel_rfl) (fun _ _ _ h => h) (.inl ⟨by rfl, fun W1 h1 => by (have x1 : W1.cell? ⟨g, 1, none⟩ = some (.bool false) := (by rw [cell_of_row _ _ 1 _ 107 (0, 0) (blk_below HG9.out h1)]; rfl)); go_simp⟩) hW ?_
    try simp only [Act.put, List.setIfInBounds_toArray, List.set_cons_zero, List.set_cons_succ]
    refine wpAnyH_take (i := 4) (oi := ⟨some 36, _, _, _, _, _⟩) (v := .bool false) rfl (by kernel_rfl) (by kernel_rfl) (by kernel_rfl) (fun _ _ _ h => h) (.inl ⟨by rfl, fun W1 h1 => by go_simp⟩) hW ?_
    try simp only [Act.put, List.setIfInBounds_toArray, List.set_cons_zero, List.set_cons_succ]
    refine wpAnyH_take (i := 5) (oi := ⟨some 37, _, _, _, _, _⟩) rfl (by kernel_rfl) (by kernel_rfl) (by kernel_rfl) (fun _ _ _ h => h) (yieldsIf_load_row (by rfl) 59 _ rfl ge rfl 59 (encE e5) (0, 0) _ (fun _ h => blk_below H9.out.he h) u59 rfl HI.out.1) hW ?_
    try simp only [Act.put, List.setIfInBounds_toArray, List.set_cons_zero, List.set_cons_succ]
    refine wpAnyH_ready (rs := [6]) (by kernel_rfl) (by simp) (AllReadyH.cons rfl (fun K1 hK1 => ?_) AllReadyH.nil)
    go_simp
    refine (rightE_calls e5 H9.out.ok _).mono ?_
    rintro r W4 ⟨rfl, hb4⟩
    have hW4 := below_then hW hW.size hb4
    by_cases hrv : RightE e5
    · rw [decide_eq_true hrv]
      have HRV := Aside0.mk hrv
      clear hrv
      refine hK1.out _ _ hW4 (fun hW => ?_)
      try simp only [Act.put, List.setIfInBounds_toArray, List.set_cons_zero, List.set_cons_succ]
      refine wpAnyH_take (i := 7) (oi := ⟨some 39, _, _, _, _, _⟩) (v := .bool false) rfl (by kernel_rfl) (by kernel_rfl) (by kernel_rfl) (fun _ _ _ h => h) (.inl ⟨by rfl, fun W1 h1 => by go_simp⟩) hW ?_
      try simp only [Act.put, List.setIfInBounds_toArray, List.set_cons_zero, List.set_cons_succ]
      refine wpAnyH_take (i := 8) (oi := ⟨some 40, _, _, _, _, _⟩) (v := .bool false) rfl (by kernel_rfl) (by kernel_rfl) (by kernel_rfl) (fun _ _ _ h => h) (.inl ⟨by rfl, fun W1 h1 => by go_simp⟩) hW ?_
      try simp only [Act.put, List.setIfInBounds_toArray, List.set_cons_zero, List.set_cons_succ]
      refine wpAnyH_take (i := 9) (oi := ⟨some 41, _, _, _, _, _⟩) (v := .bool false) rfl (by kernel_rfl) (by kernel_rfl) (by kernel_rfl) (fun _ _ _ h => h) (.inl ⟨by rfl, fun W1 h1 => by go_simp⟩) hW ?_
      try simp only [Act.put, List.setIfInBounds_toArray, List.set_cons_zero, List.set_cons_succ]
      refine wpAnyH_take (i := 10) (oi := ⟨some 42, _, _, _, _, _⟩) rfl (by kernel_rfl) (by kernel_rfl) (by kernel_rfl) (fun _ _ _ h => h) (yieldsIf_load_row (by rfl) 59 _ rfl ge rfl 59 (encE e5) (0, 0) _ (fun _ h => blk_below H9.out.he h) u59 rfl HI.out.1) hW ?_
      try simp only [Act.put, List.setIfInBounds_toArray, List.set_cons_zero, List.set_cons_succ]
      have c2 : ∀ W1, Below w5.heap.size w5 W1 → (convert 31 9 (.slice A L.length c)).run Try.prog W1 = .ok (.string (strOfNums L)) W1 := fun W1 h1 => Kd.C_string (P := Try.prog) Try.underlying31 Try.underlying5 Try.underlying9 (Kd.C_below (Kd.C_below HC.out.1 H9.out.rd.below) h1)
      refine wpAnyH_take (i := 13) (oi := ⟨some 45, _, _, _, _, _⟩) (v := .slice A L.length c) rfl (by kernel_rfl) (by kernel_rfl) (by kernel_rfl) (fun _ _ _ h => h) (.inl ⟨by rfl, fun W1 h1 => by go_simp⟩) hW ?_
      try simp only [Act.put, List.setIfInBounds_toArray, List.set_cons_zero, List.set_cons_succ]
      refine wpAnyH_take (i := 14) (oi := ⟨some 46, _, _, _, _, _⟩) (v := .string (strOfNums L)) rfl (by kernel_rfl) (by kernel_rfl) (by kernel_rfl) (fun _ _ _ h => h) (.inl ⟨by rfl, fun W1 h1 => by (have x1 := c2 W1 h1); go_simp⟩) hW ?_
      try simp only [Act.put, List.setIfInBounds_toArray, List.set_cons_zero, List.set_cons_succ]
      refine wpAnyH_ready (rs := [11]) (by kernel_rfl) (by simp) (AllReadyH.cons rfl (fun K2 hK2 => ?_) AllReadyH.nil)
      go_simp
      refine (ebytes_calls e5 H9.out.ok HRV.out _).mono ?_
      rintro r W5 ⟨A5, m5, c5, rfl, hm5, hc5, hr5, hb5⟩
      have hW5 := below_then hW hW.size hb5
      have c6 := Kd.C_string (P := Try.prog) (c := c5) Try.underlying31 Try.underlying5 Try.underlying9 hr5
      have hS := str_iff (entL e5) L (entL_byt H9.out.ok) HC.out.2.1
      clear hm5 hc5 hr5
      generalize strOfNums (entL e5) = S5 at *
      refine hK2.out _ _ hW5 (fun hW => ?_)
      try simp only [Act.put, List.setIfInBounds_toArray, List.set_cons_zero, List.set_cons_succ]
      generalize strOfNums L = SL at *
      refine wpAnyH_ready (rs := [12]) (by kernel_rfl) (by simp) (AllReadyH.cons rfl (fun K3 hK3 => ?_) AllReadyH.nil)
      go_simp
      refine hK3.out _ _ hW5 (fun hW => ?_)
      try simp only [Act.put, List.setIfInBounds_toArray, List.set_cons_zero, List.set_cons_succ]
      by_cases heq : entL e5 = L
      · rw [decide_eq_true heq] at hS
        have HEQ := Aside0.mk heq
        clear heq
        refine wpAnyH_take (i := 15) (oi := ⟨some 47, _, _, _, _, _⟩) (v := .bool false) rfl (by kernel_rfl) (by kernel_rfl) (by kernel_rfl) (fun _ _ _ h => h) (.inl ⟨by rfl, fun W1 h1 => by go_simp⟩) hW ?_
        try simp only [Act.put, List.setIfInBounds_toArray, List.set_cons_zero, List.set_cons_succ]
        refine wpAnyH_take (i := 16) (oi := ⟨some 48, _, _, _, _, _⟩) (v := .bool false) rfl (by kernel_rfl) (by kernel_rfl) (by kernel_rfl) (fun _ _ _ h => h) (.inl ⟨by rfl, fun W1 h1 => by go_simp⟩) hW ?_
        try simp only [Act.put, List.setIfInBounds_toArray, List.set_cons_zero, List.set_cons_succ]
        refine wpAnyH_done (by kernel_rfl) ?_ _
        have B9 := Aside0.mk (below_then H9.out.rd.below H9.out.rd.below.size hW)
        have z9 := Aside0.mk (blk_below h2Z.out hW)
        have e9 := Aside0.mk (blk_below H9.out.he hW)
        clear hK1 K1 hK2 K2 hK3 K3 hW hW4 hb4 hW5 hb5 c6 c2 hS
        go_wp2_with (first | (refine wpList_store_row rfl 59 (.tmp 2) (.tmp 50) rfl w.heap.size (encE e5) rfl rfl 59 Z59 z9.out HI.out.1 hsz9.out HI.out.2 ?_) | (refine load_E rfl (.tmp 5) rfl ge e5 rfl H9.out.ok 59 e9.out ?_))
        refine bodyPost_ret (res_ct (p := 2) (q := 3) _ rfl rfl (setRow_heap _ w.heap.size _ (encE e5) 59 _ z9.out) u59 rfl HI.out.1) rfl ?_
        rw [HP.out]
        exact ⟨below_setRow B9.out (Nat.le_refl _) _, .inl ⟨e5, rfl, H9.out.ok, HRV.out, HEQ.out⟩⟩
      · rw [decide_eq_false heq] at hS
        have HEQ := Aside0.mk heq
        clear heq
        refine wpAnyH_take (i := 15) (oi := ⟨some 47, _, _, _, _, _⟩) (v := .bool true) rfl (by kernel_rfl) (by kernel_rfl) (by kernel_rfl) (fun _ _ _ h => h) (.inl ⟨by rfl, fun W1 h1 => by go_simp⟩) hW ?_
        try simp only [Act.put, List.setIfInBounds_toArray, List.set_cons_zero, List.set_cons_succ]
        refine wpAnyH_take (i := 16) (oi := ⟨some 48, _, _, _, _, _⟩) (v := .bool true) rfl (by kernel_rfl) (by kernel_rfl) (by kernel_rfl) (fun _ _ _ h => h) (.inl ⟨by rfl, fun W1 h1 => by go_simp⟩) hW ?_
        try simp only [Act.put, List.setIfInBounds_toArray, List.set_cons_zero, List.set_cons_succ]
        refine wpAnyH_done (by kernel_rfl) ?_ _
        have B9 := Aside0.mk (below_then H9.out.rd.below H9.out.rd.below.size hW)
        have z9 := Aside0.mk (blk_below h2Z.out hW)
        have e9 := Aside0.mk (blk_below H9.out.he hW)
        clear hK1 K1 hK2 K2 hK3 K3 hW hW4 hb4 hW5 hb5 c6 c2 hS
        go_wp2_with (refine wpList_store_same rfl 59 (.tmp 2) (.tmp 49) rfl w.heap.size Z59 rfl rfl 59 z9.out i59Z a59Z ?_)
        refine bodyPost_ret (res_ct (p := 2) (q := 3) _ rfl rfl z9.out u59 rfl i59Z) rfl ?_
        rw [HP.out]
        refine ⟨B9.out, .inr ⟨by rw [encZ]; rfl, fun v0 a0 a1 a2 => ?_⟩⟩
        obtain ⟨g1, g2, g3⟩ := GO9.out v0 a0 a1 a2
        exact HEQ.out (by rw [g2]; exact a2)
    · rw [decide_eq_false hrv]
      have HRV := Aside0.mk hrv
      clear hrv
      refine hK1.out _ _ hW4 (fun hW => ?_)
      try simp only [Act.put, List.setIfInBounds_toArray, List.set_cons_zero, List.set_cons_succ]
      refine wpAnyH_take (i := 7) (oi := ⟨some 39, _, _, _, _, _⟩) (v := .bool true) rfl (by kernel_rfl) (by kernel_rfl) (by kernel_rfl) (fun _ _ _ h => h) (.inl ⟨by rfl, fun W1 h1 => by go_simp⟩) hW ?_
      try simp only [Act.put, List.setIfInBounds_toArray, List.set_cons_zero, List.set_cons_succ]
      refine wpAnyH_take (i := 8) (oi := ⟨some 40, _, _, _, _, _⟩) (v := .bool true) rfl (by kernel_rfl) (by kernel_rfl) (by kernel_rfl) (fun _ _ _ h => h) (.inl ⟨by rfl, fun W1 h1 => by go_simp⟩) hW ?_
      try simp only [Act.put, List.setIfInBounds_toArray, List.set_cons_zero, List.set_cons_succ]
      refine wpAnyH_take (i := 9) (oi := ⟨some 41, _, _, _, _, _⟩) (v := .bool true) rfl (by kernel_rfl) (by kernel_rfl) (by kernel_rfl) (fun _ _ _ h => h) (.inl ⟨by rfl, fun W1 h1 => by go_simp⟩) hW ?_
      try simp only [Act.put, List.setIfInBounds_toArray, List.set_cons_zero, List.set_cons_succ]
      refine wpAnyH_take (i := 10) (oi := ⟨some 42, _, _, _, _, _⟩) (v := undef) rfl (by kernel_rfl) (by kernel_rfl) (by kernel_rfl) (fun _ _ _ h => h) (.inr ⟨by rfl, rfl⟩) hW ?_
      try simp only [Act.put, List.setIfInBounds_toArray, List.set_cons_zero, List.set_cons_succ]
      refine wpAnyH_take (i := 11) (oi := ⟨some 43, _, _, _, _, _⟩) (v := undef) rfl (by kernel_rfl) (by kernel_rfl) (by kernel_rfl) (fun _ _ _ h => h) (.inr ⟨by rfl, rfl⟩) hW ?_
      try simp only [Act.put, List.setIfInBounds_toArray, List.set_cons_zero, List.set_cons_succ]
      refine wpAnyH_take (i := 12) (oi := ⟨some 44, _, _, _, _, _⟩) (v := undef) rfl (by kernel_rfl) (by kernel_rfl) (by kernel_rfl) (fun _ _ _ h => h) (.inr ⟨by rfl, rfl⟩) hW ?_
      try simp only [Act.put, List.setIfInBounds_toArray, List.set_cons_zero, List.set_cons_succ]
      refine wpAnyH_take (i := 13) (oi := ⟨some 45, _, _, _, _, _⟩) (v := undef) rfl (by kernel_rfl) (by kernel_rfl) (by kernel_rfl) (fun _ _ _ h => h) (.inr ⟨by rfl, rfl⟩) hW ?_
      try simp only [Act.put, List.setIfInBounds_toArray, List.set_cons_zero, List.set_cons_succ]
      refine wpAnyH_take (i := 14) (oi := ⟨some 46, _, _, _, _, _⟩) (v := undef) rfl (by kernel_rfl) (by kernel_rfl) (by kernel_rfl) (fun _ _ _ h => h) (.inr ⟨by rfl, rfl⟩) hW ?_
      try simp only [Act.put, List.setIfInBounds_toArray, List.set_cons_zero, List.set_cons_succ]
      refine wpAnyH_take (i := 15) (oi := ⟨some 47, _, _, _, _, _⟩) (v := undef) rfl (by kernel_rfl) (by kernel_rfl) (by kernel_rfl) (fun _ _ _ h => h) (.inr ⟨by rfl, rfl⟩) hW ?_
      try simp only [Act.put, List.setIfInBounds_toArray, List.set_cons_zero, List.set_cons_succ]
      refine wpAnyH_take (i := 16) (oi := ⟨some 48, _, _, _, _, _⟩) (v := .bool true) rfl (by kernel_rfl) (by kernel_rfl) (by kernel_rfl) (fun _ _ _ h => h) (.inl ⟨by rfl, fun W1 h1 => by go_simp⟩) hW ?_
      try simp only [Act.put, List.setIfInBounds_toArray, List.set_cons_zero, List.set_cons_succ]
      refine wpAnyH_done (by kernel_rfl) ?_ _
      have B9 := Aside0.mk (below_then H9.out.rd.below H9.out.rd.below.size hW)
      have z9 := Aside0.mk (blk_below h2Z.out hW)
      have e9 := Aside0.mk (blk_below H9.out.he hW)
      clear hK1 K1 hW hW4 hb4
      go_wp2_with (refine wpList_store_same rfl 59 (.tmp 2) (.tmp 49) rfl w.heap.size Z59 rfl rfl 59 z9.out i59Z a59Z ?_)
      refine bodyPost_ret (res_ct (p := 2) (q := 3) _ rfl rfl z9.out u59 rfl i59Z) rfl ?_
      rw [HP.out]
      refine ⟨B9.out, .inr ⟨by rw [encZ]; rfl, fun v0 a0 a1 a2 => ?_⟩⟩
      obtain ⟨g1, g2, g3⟩ := GO9.out v0 a0 a1 a2
      exact HRV.out (by rw [g2]; exact a1)
end Go.Proofs.Ytfefpbnhpncmlaa.EntH
/- The document's Read of an entry: a contract. -/
namespace Go.Proofs.Ytfefpbnhpncmlaa.EntI
open Go.RowKit Go.Proofs.Ytfefpbnhpncmlaa.EntL Go.Proofs.Ytfefpbnhpncmlaa.EntB Go.Proofs.Ytfefpbnhpncmlaa.EntC Go.Proofs.Ytfefpbnhpncmlaa.EntD Go.Proofs.Ytfefpbnhpncmlaa.EntE Go.Proofs.Ytfefpbnhpncmlaa.EntF Go.Proofs.Ytfefpbnhpncmlaa.EntH Go.Proofs.Ytfefpbnhpncmlaa.CatR Go.Proofs.Ytfefpbnhpncmlaa.CatT Go.Proofs.Ytfefpbnhpncmlaa.CatU Go.Proofs.Ytfefpbnhpncmlaa.CatV Go.Proofs.Ytfefpbnhpncmlaa.CatX Go.Proofs.Ytfefpbnhpncmlaa.CatK Go.Proofs.Ytfefpbnhpncmlaa.CatS Go.Proofs.Ytfefpbnhpncmlaa.CatY Go.Proofs.Ytfefpbnhpncmlaa.RefG Go.Proofs.Ytfefpbnhpncmlaa.PtrB Go.Proofs.Ytfefpbnhpncmlaa.PtrG Go.Proofs.Ytfefpbnhpncmlaa.Agg Go.Proofs.Ytfefpbnhpncmlaa.B8 Go.Proofs.Ytfefpbnhpncmlaa.CodL Go.Proofs.Ytfefpbnhpncmlaa.CodA Go.Proofs.Ytfefpbnhpncmlaa.CodB Go.Proofs.Ytfefpbnhpncmlaa.CatL Go.Proofs.Ytfefpbnhpncmlaa.PtrA Go.Proofs.Ytfefpbnhpncmlaa.PtrE Go.Proofs.Ytfefpbnhpncmlaa.PtrF Go.Proofs.Ytfefpbnhpncmlaa.PBaseSigns Go.Proofs.YtfefpbnhpncmlaaW.PrintWords Go.Proofs.YtfefpbnhpncmlaaW.PrintLast Go.Proofs.YtfefpbnhpncmlaaW.PrintMore
set_option linter.unusedVariables false
set_option linter.unusedSimpArgs false

theorem i62Z : (Try.prog.info? 62).map (·.size) = some Z59.size := by rw [← encZ]; exact i62 okZeroE
/-- Where the walk stands. -/
structure IF (w : World) (gv g2 : Nat) (A : Option Addr) (n c : Nat) (l : List Int) (e : Ent) (W : World) : Prop where
  below : Below w.heap.size w W
  rest : C8 w A n l
  hn : n = l.length
  hc : n ≤ c
  byt : Byt l
  len : n ≤ 100000
  he : W.heap[gv]? = some (.cells (encE e) 62 (0, 0))
  h2 : W.heap[g2]? = some (.cells Z59 62 (0, 0))
  gle : w.heap.size ≤ gv
  ne : g2 ≠ gv
  ok : OkE e
theorem IF.on {w : World} {gv g2 : Nat} {A : Option Addr} {n c : Nat} {l : List Int} {e : Ent} {W W1 : World} (h : IF w gv g2 A n c l e W) (hb : Below W.heap.size W W1) : IF w gv g2 A n c l e W1 :=
  ⟨below_then h.below h.below.size hb, h.rest, h.hn, h.hc, h.byt, h.len, blk_below h.he hb, blk_below h.h2 hb, h.gle, h.ne, h.ok⟩
theorem IF.go {w : World} {gv g2 : Nat} {A A' : Option Addr} {n c n' c' : Nat} {l l' : List Int} {e : Ent} {W : World} (h : IF w gv g2 A n c l e W) (h1 : C8 w A' n' l') (h2 : n' = l'.length) (h3 : n' ≤ c') (h4 : Byt l') (h5 : l'.length ≤ l.length) : IF w gv g2 A' n' c' l' e W :=
  ⟨h.below, h1, h2, h3, h4, by have := h.hn; have := h.len; omega, h.he, h.h2, h.gle, h.ne, h.ok⟩
theorem IF.set {w : World} {gv g2 : Nat} {A : Option Addr} {n c : Nat} {l : List Int} {e e' : Ent} {W : World} (h : IF w gv g2 A n c l e W) (i : Nat) (v : Value) (hs : (encE e).setIfInBounds i v = encE e') (hk : OkE e') : IF w gv g2 A n c l e' (W.setCell ⟨gv, i, none⟩ v) := by
  refine ⟨h.below.setCell h.gle _, h.rest, h.hn, h.hc, h.byt, h.len, ?_, blk_far h.h2 (by simp; exact h.ne) _, h.gle, h.ne, hk⟩
  rw [heap_setCell_same _ _ _ _ _ _ h.he, hs]
theorem IF.root {w : World} {gv g2 : Nat} {A : Option Addr} {n c : Nat} {l : List Int} {e : Ent} {W : World} (h : IF w gv g2 A n c l e W) (q : Ptr) (hq : Ok q) : IF w gv g2 A n c l { e with root := q } (W.setCells gv 4 (encP q).toList) :=
  ⟨below_setCells h.below gv 4 h.gle _, h.rest, h.hn, h.hc, h.byt, h.len, lay_root h.ok q hq _ _ _ h.he, (setCells_far _ 4 _ h.ne).trans h.h2, h.gle, h.ne, ⟨hq, h.ok.dead⟩⟩
theorem IF.dead {w : World} {gv g2 : Nat} {A : Option Addr} {n c : Nat} {l : List Int} {e : Ent} {W : World} (h : IF w gv g2 A n c l e W) (q : Ptr) (hq : Ok q) : IF w gv g2 A n c l { e with dead := q } (W.setCells gv 40 (encP q).toList) :=
  ⟨below_setCells h.below gv 40 h.gle _, h.rest, h.hn, h.hc, h.byt, h.len, lay_dead h.ok q hq _ _ _ h.he, (setCells_far _ 40 _ h.ne).trans h.h2, h.gle, h.ne, ⟨h.ok.root, hq⟩⟩
/-- Going along. -/
def GoesF (L : List Int) (f : Ent → Ent) (t : Ent → List Int) (l : List Int) (e : Ent) : Prop := ∀ e0, OkE e0 → RightE e0 → entL e0 = L → e = f e0 ∧ l = t e0
theorem numR_shI {n : Int} (h0 : 0 ≤ n) (h1 : n ≤ 1152921504606846976) (r : List Int) : numR (shI n ++ r) = (n, r) := by
  unfold numR
  rw [badS_shI h0 h1, short_shI h0 h1]
  simp only [Bool.false_eq_true, if_false]
  rw [List.drop_left' rfl]
theorem goesN (L l : List Int) (e : Ent) (f : Ent → Ent) (t : Ent → List Int) (fld : Ent → Int) (upd : Ent → Int → Ent) (hbd : ∀ e0, RightE e0 → 0 ≤ fld e0 ∧ fld e0 ≤ 1152921504606846976) (h : GoesF L f (fun e0 => shI (fld e0) ++ t e0) l e) :
    GoesF L (fun e0 => upd (f e0) (fld e0)) t (numR l).2 (upd e (numR l).1) := by
  intro e0 h1 h2 h3
  obtain ⟨g1, g2⟩ := h e0 h1 h2 h3
  have hb := hbd e0 h2
  rw [g2, numR_shI hb.1 hb.2, g1]
  exact ⟨rfl, rfl⟩
theorem goesB (L l : List Int) (e : Ent) (f : Ent → Ent) (t : Ent → List Int) (fld : Ent → Ptr) (upd : Ent → Ptr → Ent) (hbd : ∀ e0, OkE e0 → RightE e0 → Lays (fld e0)) (h : GoesF L f (fun e0 => ptrL (fld e0) ++ t e0) l e) :
    GoesF L (fun e0 => upd (f e0) (fld e0)) t (blockR l).2 (upd e (blockR l).1) := by
  intro e0 h1 h2 h3
  obtain ⟨g1, g2⟩ := h e0 h1 h2 h3
  have hl := hbd e0 h1 h2
  have hr : blockR l = (fld e0, t e0) := by
    unfold blockR
    rw [g2, readP_ptrL hl]
    simp only [if_pos]
    rw [List.drop_left' (ptrL_len hl.1)]
  rw [hr, g1]
  exact ⟨rfl, rfl⟩
theorem goesT (L l : List Int) (e : Ent) (f : Ent → Ent) (t : Ent → List Int) (h : GoesF L f (fun e0 => textL e0.name ++ t e0) l e) (e0 : Ent) (h1 : OkE e0) (h2 : RightE e0) (h3 : entL e0 = L) :
    readText l 63 = (e0.name, (textL e0.name).length, 0) ∧ e = f e0 ∧ l.drop (readText l 63).2.1 = t e0 := by
  obtain ⟨g1, g2⟩ := h e0 h1 h2 h3
  have hr : readText l 63 = (e0.name, (textL e0.name).length, 0) := by rw [g2]; exact readText_textL e0.name 63 h2.n1 (by decide) _
  refine ⟨hr, g1, ?_⟩
  rw [hr, g2]
  exact List.drop_left' rfl
theorem goes_eq {L l : List Int} {e e' : Ent} {f : Ent → Ent} {t : Ent → List Int} (he : e' = e) (h : GoesF L f t l e) : GoesF L f t l e' := by rw [he]; exact h
theorem numR_byt {l : List Int} (h : Byt l) : Byt (numR l).2 ∧ (numR l).2.length ≤ l.length := by
  unfold numR
  split
  · exact ⟨fun x hx => by simp at hx, by simp⟩
  · exact ⟨h.drop _, by rw [List.length_drop]; omega⟩

set_option maxRecDepth 100000 in
set_option maxHeartbeats 4000000 in
theorem rreadE_calls (A : Option Addr) (c n : Nat) (L : List Int) (hn : n = L.length) (w : World) (hr : C8 w A n L) (hb : Byt L) (hc : n ≤ c) (hm : n ≤ 10000) :
    Calls Try.prog 33 #[.slice A n c] w (TellsReadE w L) := by
  subst hn
  have HC := Aside0.mk (And.intro hr (And.intro hb hc))
  obtain ⟨P, hP⟩ : ∃ P : Ending → World → Prop, P = TellsReadE w L := ⟨_, rfl⟩
  rw [← hP]
  have HP := Aside0.mk hP
  have g0 := blk_new w (.cells Z59 62)
  have g1 := blk_new (w.alloc (.cells Z59 62)) (.cells Z59 62)
  have s1 : (w.alloc (.cells Z59 62)).heap.size = w.heap.size + 1 := by simp
  rw [s1] at g1
  have B2 : Below w.heap.size w ((w.alloc (.cells Z59 62)).alloc (.cells Z59 62)) := ((Below.refl w.heap.size w).alloc (Nat.le_refl _) _).alloc (by simp) _
  have G1 := Aside0.mk g1
  have H0a : IF w (w.heap.size + 1) w.heap.size A L.length c L zeroE ((w.alloc (.cells Z59 62)).alloc (.cells Z59 62)) :=
    ⟨B2, hr, rfl, hc, hb, by omega, by rw [encZ]; exact g1, blk_alloc g0 _, by omega, by omega, okZeroE⟩
  have H0 := Aside0.mk H0a
  have GO0a : GoesF L (fun _ => zeroE) (fun e0 => shI e0.id ++ (shI e0.kind ++ (shI e0.owner ++ t4 e0))) L zeroE := fun e0 h1 h2 h3 => ⟨rfl, by rw [← h3, entL_t4]⟩
  have GO0 := Aside0.mk GO0a
  clear hr hb hc hP g0 g1 s1 B2 H0a GO0a
  go_enter Try.func33, Try.ntmps33
  go_wp2_with (refine wpList_store_same rfl 62 (.tmp 4) (.tmp 11) rfl (w.heap.size + 1) Z59 rfl rfl 62 G1.out i62Z a59Z ?_)
  clear G1
  generalize hGV : w.heap.size + 1 = gv at *
  have HGV := Aside0.mk hGV
  clear hGV
  generalize hE0 : zeroE = e0 at H0 GO0
  have HE0 := Aside0.mk hE0
  clear hE0
  refine (number_calls w A c L.length L H0.out.hn _ H0.out.below H0.out.rest H0.out.byt H0.out.hc (by have := H0.out.len; omega)).mono ?_
  rintro r w1 ⟨A1, c1, n1, rfl, hn, hc, hr, hb⟩
  have hnb := numR_byt H0.out.byt
  have GOa := Aside0.mk (goesN L L e0 _ (fun e0 => (shI e0.kind ++ (shI e0.owner ++ (textL e0.name ++ (ptrL e0.root ++ (ptrL e0.dead ++ (shI e0.born ++ (shI e0.prev ++ (shI e0.next ++ (shI e0.origin ++ (shI e0.clones ++ []))))))))))) (fun e0 => e0.id) (fun e (x : Int) => { e with id := x }) (fun e0 h => ⟨by have := h.id.1; omega, h.id.2⟩) GO0.out)
  have Hx := Aside0.mk ((H0.out.on hb).go hr hn hc hnb.1 hnb.2)
  clear hn hc hr hb hnb GO0 H0
  generalize (numR L).1 = x at *
  generalize (numR L).2 = l1 at *
  have xc : w1.cell? ⟨gv, 0, none⟩ = some (.int .i64 e0.id) := by rw [cell_of_row _ _ 0 _ 62 (0, 0) Hx.out.he]; exact encE_0 e0
  have fc := frozen_of_row w1 gv 0 _ 62 Hx.out.he
  have Hy := Hx.out.set 0 (.int .i64 x) (set_id e0 x) ⟨Hx.out.ok.root, Hx.out.ok.dead⟩
  obtain ⟨e1, he⟩ : ∃ e' : Ent, e' = { e0 with id := x } := ⟨_, rfl⟩
  rw [← he] at Hy
  have GO1 := Aside0.mk (goes_eq he GOa.out)
  have H1 := Aside0.mk Hy
  have HE1 := Aside0.mk he
  clear he Hy Hx GOa
  go_wp2_with fail
  clear xc fc
  refine (number_calls w A1 c1 n1 l1 H1.out.hn _ H1.out.below H1.out.rest H1.out.byt H1.out.hc (by have := H1.out.len; omega)).mono ?_
  rintro r w2 ⟨A2, c2, n2, rfl, hn, hc, hr, hb⟩
  have hnb := numR_byt H1.out.byt
  have GOa := Aside0.mk (goesN L l1 e1 _ (fun e0 => (shI e0.owner ++ (textL e0.name ++ (ptrL e0.root ++ (ptrL e0.dead ++ (shI e0.born ++ (shI e0.prev ++ (shI e0.next ++ (shI e0.origin ++ (shI e0.clones ++ [])))))))))) (fun e0 => e0.kind) (fun e (x : Int) => { e with kind := x }) (fun e0 h => ⟨(kind_bd h).1, (kind_bd h).2.1⟩) GO1.out)
  have Hx := Aside0.mk ((H1.out.on hb).go hr hn hc hnb.1 hnb.2)
  clear hn hc hr hb hnb GO1 H1
  generalize (numR l1).1 = x at *
  generalize (numR l1).2 = l2 at *
  have xc : w2.cell? ⟨gv, 1, none⟩ = some (.int .i64 e1.kind) := by rw [cell_of_row _ _ 1 _ 62 (0, 0) Hx.out.he]; exact encE_1 e1
  have fc := frozen_of_row w2 gv 1 _ 62 Hx.out.he
  have Hy := Hx.out.set 1 (.int .i64 x) (set_kind e1 x) ⟨Hx.out.ok.root, Hx.out.ok.dead⟩
  obtain ⟨e2, he⟩ : ∃ e' : Ent, e' = { e1 with kind := x } := ⟨_, rfl⟩
  rw [← he] at Hy
  have GO2 := Aside0.mk (goes_eq he GOa.out)
  have H2 := Aside0.mk Hy
  have HE2 := Aside0.mk he
  clear he Hy Hx GOa
  go_wp2_with fail
  clear xc fc
  refine (number_calls w A2 c2 n2 l2 H2.out.hn _ H2.out.below H2.out.rest H2.out.byt H2.out.hc (by have := H2.out.len; omega)).mono ?_
  rintro r w3 ⟨A3, c3, n3, rfl, hn, hc, hr, hb⟩
  have hnb := numR_byt H2.out.byt
  have GOa := Aside0.mk (goesN L l2 e2 _ (fun e0 => (textL e0.name ++ (ptrL e0.root ++ (ptrL e0.dead ++ (shI e0.born ++ (shI e0.prev ++ (shI e0.next ++ (shI e0.origin ++ (shI e0.clones ++ []))))))))) (fun e0 => e0.owner) (fun e (x : Int) => { e with owner := x }) (fun e0 h => (kind_bd h).2.2) GO2.out)
  have Hx := Aside0.mk ((H2.out.on hb).go hr hn hc hnb.1 hnb.2)
  clear hn hc hr hb hnb GO2 H2
  generalize (numR l2).1 = x at *
  generalize (numR l2).2 = l3 at *
  have xc : w3.cell? ⟨gv, 2, none⟩ = some (.int .i64 e2.owner) := by rw [cell_of_row _ _ 2 _ 62 (0, 0) Hx.out.he]; exact encE_2 e2
  have fc := frozen_of_row w3 gv 2 _ 62 Hx.out.he
  have Hy := Hx.out.set 2 (.int .i64 x) (set_owner e2 x) ⟨Hx.out.ok.root, Hx.out.ok.dead⟩
  obtain ⟨e3, he⟩ : ∃ e' : Ent, e' = { e2 with owner := x } := ⟨_, rfl⟩
  rw [← he] at Hy
  have GO3 := Aside0.mk (goes_eq he GOa.out)
  have H3 := Aside0.mk Hy
  have HE3 := Aside0.mk he
  clear he Hy Hx GOa
  go_wp2_with fail
  clear xc fc
  generalize w3.setCell ⟨gv, 2, none⟩ (.int .i64 x) = w4 at *
  refine (rreadText_calls A3 c3 n3 l3 H3.out.hn w4 (Kd.C_below H3.out.rest H3.out.below) H3.out.byt H3.out.hc (by have := H3.out.len; omega)).mono ?_
  rintro r wx ⟨rfl, rfl⟩
  have hu := readText_used l3 63
  have GT := Aside0.mk (goesT L l3 e3 _ (fun e0 => (ptrL e0.root ++ (ptrL e0.dead ++ (shI e0.born ++ (shI e0.prev ++ (shI e0.next ++ (shI e0.origin ++ (shI e0.clones ++ [])))))))) GO3.out)
  obtain ⟨nm, hnm⟩ : ∃ s, s = (readText l3 63).1 := ⟨_, rfl⟩
  obtain ⟨u, hu1⟩ : ∃ u, u = (readText l3 63).2.1 := ⟨_, rfl⟩
  obtain ⟨er, her⟩ : ∃ er, er = (readText l3 63).2.2 := ⟨_, rfl⟩
  rw [← hnm, ← hu1, ← her]
  rw [← hu1, ← H3.out.hn] at hu
  have HX := Aside0.mk (And.intro hnm (And.intro hu1 her))
  clear hnm hu1 her
  have hcut := cut8_from A3 n3 c3 u hu
  have HD := C8_drop H3.out.rest H3.out.hc hu
  generalize (if c3 = u then A3 else A3.map (·.add u)) = A4 at hcut HD
  by_cases he : er = 0
  case neg =>
    have hbe : (er == 0) = false := by simp [he]
    have hbe2 : (er != 0) = true := by simp [he]
    have HE := Aside0.mk he
    clear he
    have z9 := Aside0.mk H3.out.h2
    go_wp2_with (refine wpList_store_same rfl 62 (.tmp 2) (.tmp 39) rfl w.heap.size Z59 rfl rfl 62 z9.out i62Z a59Z ?_)
    refine bodyPost_ret (res_ct (p := 2) (q := 3) _ rfl rfl z9.out u62 rfl i62Z) rfl ?_
    rw [HP.out]
    refine ⟨H3.out.below, .inr ⟨by rw [encZ]; rfl, fun v0 a0 a1 a2 => ?_⟩⟩
    obtain ⟨t1, _⟩ := GT.out v0 a0 a1 a2
    exact HE.out (by rw [HX.out.2.2, t1])
  have GO4 : Aside0 (GoesF L (fun e0 => { (fun e0 : Ent => { (fun e0 : Ent => { (fun e0 : Ent => { zeroE with id := e0.id }) e0 with kind := e0.kind }) e0 with owner := e0.owner }) e0 with name := e0.name }) (fun e0 => (ptrL e0.root ++ (ptrL e0.dead ++ (shI e0.born ++ (shI e0.prev ++ (shI e0.next ++ (shI e0.origin ++ (shI e0.clones ++ [])))))))) (l3.drop u) { e3 with name := nm }) := ⟨fun v0 a0 a1 a2 => by
    obtain ⟨t1, t2, t3⟩ := GT.out v0 a0 a1 a2
    rw [← HX.out.2.1] at t3
    have e4 : nm = v0.name := by rw [HX.out.1, t1]
    exact ⟨by rw [t2, e4, ← HE0.out], t3⟩⟩
  subst he
  have xc : w4.cell? ⟨gv, 3, none⟩ = some (.string e3.name) := by rw [cell_of_row _ _ 3 _ 62 (0, 0) H3.out.he]; exact encE_3 e3
  have fc := frozen_of_row w4 gv 3 _ 62 H3.out.he
  have Hy := (H3.out.go (c' := c3 - u) HD (by rw [List.length_drop, ← H3.out.hn]) (by have := H3.out.hc; omega) (H3.out.byt.drop _) (by rw [List.length_drop]; omega)).set 3 (.string nm) (set_name e3 nm) ⟨H3.out.ok.root, H3.out.ok.dead⟩
  obtain ⟨e4, he⟩ : ∃ e' : Ent, e' = { e3 with name := nm } := ⟨_, rfl⟩
  rw [← he] at Hy
  have GO4 := Aside0.mk (goes_eq he GO4.out)
  have HE4 := Aside0.mk he
  obtain ⟨l4, hl4⟩ : ∃ l4, l4 = l3.drop u := ⟨_, rfl⟩
  rw [← hl4] at Hy GO4
  have H4 := Aside0.mk Hy
  obtain ⟨n4, hn4⟩ : ∃ n4, n4 = n3 - u := ⟨_, rfl⟩
  obtain ⟨c4, hc4⟩ : ∃ c4, c4 = c3 - u := ⟨_, rfl⟩
  rw [← hn4, ← hc4] at H4 hcut
  have HL4 := Aside0.mk (And.intro hl4 (And.intro hn4 hc4))
  clear he Hy HD GT GO3 hl4 hn4 hc4 hu H3
  go_wp2_with fail
  clear xc fc hcut
  refine (rblock_calls w A4 c4 n4 l4 H4.out.hn _ H4.out.below H4.out.rest H4.out.byt H4.out.hc (by have := H4.out.len; omega)).mono ?_
  rintro r w6 ⟨A5, c5, n5, rfl, hn, hc, hr, hb⟩
  have hob := blockR_ok H4.out.byt
  have GOa := Aside0.mk (goesB L l4 e4 _ (fun e0 => (ptrL e0.dead ++ (shI e0.born ++ (shI e0.prev ++ (shI e0.next ++ (shI e0.origin ++ (shI e0.clones ++ []))))))) (fun e0 => e0.root) (fun e (x : Ptr) => { e with root := x }) (fun e0 a h => lays_of a.root h.root) GO4.out)
  have Hx := Aside0.mk ((H4.out.on hb).go hr hn hc hob.2.1 hob.2.2)
  clear hn hc hr hb GO4 H4
  generalize (blockR l4).1 = x at *
  generalize (blockR l4).2 = l5 at *
  have hokx := Aside0.mk hob.1
  clear hob
  have Hy := Hx.out.root x hokx.out
  obtain ⟨e5, he⟩ : ∃ e' : Ent, e' = { e4 with root := x } := ⟨_, rfl⟩
  rw [← he] at Hy
  have GO5 := Aside0.mk (goes_eq he GOa.out)
  have H5 := Aside0.mk Hy
  have HE5 := Aside0.mk he
  have T1 := Aside0.mk (show w6.there gv 4 (encP x).size by rw [encP_size hokx.out.len]; exact there_of Hx.out.ok w6 gv 62 4 (by decide) Hx.out.he)
  have six := si hokx.out.len
  clear he Hy Hx GOa
  go_wp2_with (refine wpList_store_mid rfl 56 (.tmp 50) (.tmp 48) rfl gv 4 (encP x) rfl rfl T1.out six (PtrJ.a_enc x) ?_)
  clear T1 six
  generalize w6.setCells gv 4 (encP x).toList = v5 at *
  refine (rblock_calls w A5 c5 n5 l5 H5.out.hn _ H5.out.below H5.out.rest H5.out.byt H5.out.hc (by have := H5.out.len; omega)).mono ?_
  rintro r w7 ⟨A6, c6, n6, rfl, hn, hc, hr, hb⟩
  have hob := blockR_ok H5.out.byt
  have GOa := Aside0.mk (goesB L l5 e5 _ (fun e0 => (shI e0.born ++ (shI e0.prev ++ (shI e0.next ++ (shI e0.origin ++ (shI e0.clones ++ [])))))) (fun e0 => e0.dead) (fun e (x : Ptr) => { e with dead := x }) (fun e0 a h => lays_of a.dead h.dead) GO5.out)
  have Hx := Aside0.mk ((H5.out.on hb).go hr hn hc hob.2.1 hob.2.2)
  clear hn hc hr hb GO5 H5
  generalize (blockR l5).1 = x at *
  generalize (blockR l5).2 = l6 at *
  have hokx := Aside0.mk hob.1
  clear hob
  have Hy := Hx.out.dead x hokx.out
  obtain ⟨e6, he⟩ : ∃ e' : Ent, e' = { e5 with dead := x } := ⟨_, rfl⟩
  rw [← he] at Hy
  have GO6 := Aside0.mk (goes_eq he GOa.out)
  have H6 := Aside0.mk Hy
  have HE6 := Aside0.mk he
  have T1 := Aside0.mk (show w7.there gv 40 (encP x).size by rw [encP_size hokx.out.len]; exact there_of Hx.out.ok w7 gv 62 40 (by decide) Hx.out.he)
  have six := si hokx.out.len
  clear he Hy Hx GOa
  go_wp2_with (refine wpList_store_mid rfl 56 (.tmp 56) (.tmp 54) rfl gv 40 (encP x) rfl rfl T1.out six (PtrJ.a_enc x) ?_)
  clear T1 six
  generalize w7.setCells gv 40 (encP x).toList = v6 at *
  refine (number_calls w A6 c6 n6 l6 H6.out.hn _ H6.out.below H6.out.rest H6.out.byt H6.out.hc (by have := H6.out.len; omega)).mono ?_
  rintro r w8 ⟨A7, c7, n7, rfl, hn, hc, hr, hb⟩
  have hnb := numR_byt H6.out.byt
  have GOa := Aside0.mk (goesN L l6 e6 _ (fun e0 => (shI e0.prev ++ (shI e0.next ++ (shI e0.origin ++ (shI e0.clones ++ []))))) (fun e0 => e0.born) (fun e (x : Int) => { e with born := x }) (fun e0 h => h.born) GO6.out)
  have Hx := Aside0.mk ((H6.out.on hb).go hr hn hc hnb.1 hnb.2)
  clear hn hc hr hb hnb GO6 H6
  generalize (numR l6).1 = x at *
  generalize (numR l6).2 = l7 at *
  have xc : w8.cell? ⟨gv, 76, none⟩ = some (.int .i64 e6.born) := by rw [cell_of_row _ _ 76 _ 62 (0, 0) Hx.out.he]; exact encE_tail Hx.out.ok 0
  have fc := frozen_of_row w8 gv 76 _ 62 Hx.out.he
  have Hy := Hx.out.set 76 (.int .i64 x) (set_born Hx.out.ok x) ⟨Hx.out.ok.root, Hx.out.ok.dead⟩
  obtain ⟨e7, he⟩ : ∃ e' : Ent, e' = { e6 with born := x } := ⟨_, rfl⟩
  rw [← he] at Hy
  have GO7 := Aside0.mk (goes_eq he GOa.out)
  have H7 := Aside0.mk Hy
  have HE7 := Aside0.mk he
  clear he Hy Hx GOa
  go_wp2_with fail
  clear xc fc
  refine (number_calls w A7 c7 n7 l7 H7.out.hn _ H7.out.below H7.out.rest H7.out.byt H7.out.hc (by have := H7.out.len; omega)).mono ?_
  rintro r w9 ⟨A8, c8, n8, rfl, hn, hc, hr, hb⟩
  have hnb := numR_byt H7.out.byt
  have GOa := Aside0.mk (goesN L l7 e7 _ (fun e0 => (shI e0.next ++ (shI e0.origin ++ (shI e0.clones ++ [])))) (fun e0 => e0.prev) (fun e (x : Int) => { e with prev := x }) (fun e0 h => h.prev) GO7.out)
  have Hx := Aside0.mk ((H7.out.on hb).go hr hn hc hnb.1 hnb.2)
  clear hn hc hr hb hnb GO7 H7
  generalize (numR l7).1 = x at *
  generalize (numR l7).2 = l8 at *
  have xc : w9.cell? ⟨gv, 77, none⟩ = some (.int .i64 e7.prev) := by rw [cell_of_row _ _ 77 _ 62 (0, 0) Hx.out.he]; exact encE_tail Hx.out.ok 1
  have fc := frozen_of_row w9 gv 77 _ 62 Hx.out.he
  have Hy := Hx.out.set 77 (.int .i64 x) (set_prev Hx.out.ok x) ⟨Hx.out.ok.root, Hx.out.ok.dead⟩
  obtain ⟨e8, he⟩ : ∃ e' : Ent, e' = { e7 with prev := x } := ⟨_, rfl⟩
  rw [← he] at Hy
  have GO8 := Aside0.mk (goes_eq he GOa.out)
  have H8 := Aside0.mk Hy
  have HE8 := Aside0.mk he
  clear he Hy Hx GOa
  go_wp2_with fail
  clear xc fc
  refine (number_calls w A8 c8 n8 l8 H8.out.hn _ H8.out.below H8.out.rest H8.out.byt H8.out.hc (by have := H8.out.len; omega)).mono ?_
  rintro r w10 ⟨A9, c9, n9, rfl, hn, hc, hr, hb⟩
  have hnb := numR_byt H8.out.byt
  have GOa := Aside0.mk (goesN L l8 e8 _ (fun e0 => (shI e0.origin ++ (shI e0.clones ++ []))) (fun e0 => e0.next) (fun e (x : Int) => { e with next := x }) (fun e0 h => h.next) GO8.out)
  have Hx := Aside0.mk ((H8.out.on hb).go hr hn hc hnb.1 hnb.2)
  clear hn hc hr hb hnb GO8 H8
  generalize (numR l8).1 = x at *
  generalize (numR l8).2 = l9 at *
  have xc : w10.cell? ⟨gv, 78, none⟩ = some (.int .i64 e8.next) := by rw [cell_of_row _ _ 78 _ 62 (0, 0) Hx.out.he]; exact encE_tail Hx.out.ok 2
  have fc := frozen_of_row w10 gv 78 _ 62 Hx.out.he
  have Hy := Hx.out.set 78 (.int .i64 x) (set_next Hx.out.ok x) ⟨Hx.out.ok.root, Hx.out.ok.dead⟩
  obtain ⟨e9, he⟩ : ∃ e' : Ent, e' = { e8 with next := x } := ⟨_, rfl⟩
  rw [← he] at Hy
  have GO9 := Aside0.mk (goes_eq he GOa.out)
  have H9 := Aside0.mk Hy
  have HE9 := Aside0.mk he
  clear he Hy Hx GOa
  go_wp2_with fail
  clear xc fc
  refine (number_calls w A9 c9 n9 l9 H9.out.hn _ H9.out.below H9.out.rest H9.out.byt H9.out.hc (by have := H9.out.len; omega)).mono ?_
  rintro r w11 ⟨A10, c10, n10, rfl, hn, hc, hr, hb⟩
  have hnb := numR_byt H9.out.byt
  have GOa := Aside0.mk (goesN L l9 e9 _ (fun e0 => (shI e0.clones ++ [])) (fun e0 => e0.origin) (fun e (x : Int) => { e with origin := x }) (fun e0 h => h.origin) GO9.out)
  have Hx := Aside0.mk ((H9.out.on hb).go hr hn hc hnb.1 hnb.2)
  clear hn hc hr hb hnb GO9 H9
  generalize (numR l9).1 = x at *
  generalize (numR l9).2 = l10 at *
  have xc : w11.cell? ⟨gv, 79, none⟩ = some (.int .i64 e9.origin) := by rw [cell_of_row _ _ 79 _ 62 (0, 0) Hx.out.he]; exact encE_tail Hx.out.ok 3
  have fc := frozen_of_row w11 gv 79 _ 62 Hx.out.he
  have Hy := Hx.out.set 79 (.int .i64 x) (set_origin Hx.out.ok x) ⟨Hx.out.ok.root, Hx.out.ok.dead⟩
  obtain ⟨e10, he⟩ : ∃ e' : Ent, e' = { e9 with origin := x } := ⟨_, rfl⟩
  rw [← he] at Hy
  have GO10 := Aside0.mk (goes_eq he GOa.out)
  have H10 := Aside0.mk Hy
  have HE10 := Aside0.mk he
  clear he Hy Hx GOa
  go_wp2_with fail
  clear xc fc
  refine (number_calls w A10 c10 n10 l10 H10.out.hn _ H10.out.below H10.out.rest H10.out.byt H10.out.hc (by have := H10.out.len; omega)).mono ?_
  rintro r w12 ⟨A11, c11, n11, rfl, hn, hc, hr, hb⟩
  have hnb := numR_byt H10.out.byt
  have GOa := Aside0.mk (goesN L l10 e10 _ (fun e0 => []) (fun e0 => e0.clones) (fun e (x : Int) => { e with clones := x }) (fun e0 h => h.clones) GO10.out)
  have Hx := Aside0.mk ((H10.out.on hb).go hr hn hc hnb.1 hnb.2)
  clear hn hc hr hb hnb GO10 H10
  generalize (numR l10).1 = x at *
  generalize (numR l10).2 = l11 at *
  have xc : w12.cell? ⟨gv, 80, none⟩ = some (.int .i64 e10.clones) := by rw [cell_of_row _ _ 80 _ 62 (0, 0) Hx.out.he]; exact encE_tail Hx.out.ok 4
  have fc := frozen_of_row w12 gv 80 _ 62 Hx.out.he
  have Hy := Hx.out.set 80 (.int .i64 x) (set_clones Hx.out.ok x) ⟨Hx.out.ok.root, Hx.out.ok.dead⟩
  obtain ⟨e11, he⟩ : ∃ e' : Ent, e' = { e10 with clones := x } := ⟨_, rfl⟩
  rw [← he] at Hy
  have GO11 := Aside0.mk (goes_eq he GOa.out)
  have H11 := Aside0.mk Hy
  have HE11 := Aside0.mk he
  clear he Hy Hx GOa
  have HI := Aside0.mk (And.intro (i62 H11.out.ok) (encE_one e11))
  go_wp2_with (refine load_E2 rfl (.tmp 4) rfl gv e11 rfl H11.out.ok 62 H11.out.he ?_)
  clear xc fc
  refine (rputE_calls e11 H11.out.ok _).mono ?_
  rintro r v12 ⟨A12, n12, c12, rfl, hn, hc, hr, hb⟩
  have H12 := Aside0.mk (H11.out.on hb)
  have GO12 := Aside0.mk GO11.out
  have c1 := Kd.C_string (P := Try.prog) (c := c12) Try.underlying31 Try.underlying5 Try.underlying9 hr
  have c2 : (convert 31 9 (.slice A L.length c)).run Try.prog v12 = .ok (.string (strOfNums L)) v12 := Kd.C_string (P := Try.prog) Try.underlying31 Try.underlying5 Try.underlying9 (Kd.C_below HC.out.1 H12.out.below)
  clear hn hc hr hb H11 GO11
  have z9 := Aside0.mk H12.out.h2
  have hsz9 : Aside0 (Z59.size = (encE e11).size) := ⟨by rw [encE_size H12.out.ok]; rfl⟩
  by_cases hrv : RightE e11
  · rw [if_pos hrv] at c1 ⊢
    have HRV := Aside0.mk hrv
    have hS := str_iff (entL e11) L (entL_byt H12.out.ok) HC.out.2.1
    generalize strOfNums (entL e11) = S5 at *
    generalize strOfNums L = SL at *
    clear hrv
    by_cases heq : entL e11 = L
    · rw [decide_eq_true heq] at hS
      have HEQ := Aside0.mk heq
      clear heq
      go_wp2_with (first | (refine wpList_store_row rfl 62 (.tmp 2) (.tmp 102) rfl w.heap.size (encE e11) rfl rfl 62 Z59 z9.out HI.out.1 hsz9.out HI.out.2 ?_) | (refine load_E2 rfl (.tmp 4) rfl gv e11 rfl H12.out.ok 62 H12.out.he ?_))
      refine bodyPost_ret (res_ct (p := 2) (q := 3) _ rfl rfl (setRow_heap _ w.heap.size _ (encE e11) 62 _ z9.out) u62 rfl HI.out.1) rfl ?_
      rw [HP.out]
      exact ⟨below_setRow H12.out.below (Nat.le_refl _) _, .inl ⟨e11, rfl, H12.out.ok, HRV.out, HEQ.out⟩⟩
    · rw [decide_eq_false heq] at hS
      have HEQ := Aside0.mk heq
      clear heq
      go_wp2_with (refine wpList_store_same rfl 62 (.tmp 2) (.tmp 101) rfl w.heap.size Z59 rfl rfl 62 z9.out i62Z a59Z ?_)
      refine bodyPost_ret (res_ct (p := 2) (q := 3) _ rfl rfl z9.out u62 rfl i62Z) rfl ?_
      rw [HP.out]
      refine ⟨H12.out.below, .inr ⟨by rw [encZ]; rfl, fun v0 a0 a1 a2 => ?_⟩⟩
      obtain ⟨g1, g2⟩ := GO12.out v0 a0 a1 a2
      have g1 : e11 = v0 := g1
      exact HEQ.out (by rw [g1]; exact a2)
  · rw [if_neg hrv] at c1 ⊢
    have HRV := Aside0.mk hrv
    clear hrv c1 c2
    go_wp2_with (refine wpList_store_same rfl 62 (.tmp 2) (.tmp 101) rfl w.heap.size Z59 rfl rfl 62 z9.out i62Z a59Z ?_)
    refine bodyPost_ret (res_ct (p := 2) (q := 3) _ rfl rfl z9.out u62 rfl i62Z) rfl ?_
    rw [HP.out]
    refine ⟨H12.out.below, .inr ⟨by rw [encZ]; rfl, fun v0 a0 a1 a2 => ?_⟩⟩
    obtain ⟨g1, g2⟩ := GO12.out v0 a0 a1 a2
    have g1 : e11 = v0 := g1
    exact HRV.out (by rw [g1]; exact a1)
end Go.Proofs.Ytfefpbnhpncmlaa.EntI
/- Two entries: their bytes tell them apart; one is equal to itself. -/
namespace Go.Proofs.Ytfefpbnhpncmlaa.EntJ
open Go.RowKit Go.Proofs.Ytfefpbnhpncmlaa.EntL Go.Proofs.Ytfefpbnhpncmlaa.EntB Go.Proofs.Ytfefpbnhpncmlaa.EntC Go.Proofs.Ytfefpbnhpncmlaa.EntD Go.Proofs.Ytfefpbnhpncmlaa.EntE Go.Proofs.Ytfefpbnhpncmlaa.EntF Go.Proofs.Ytfefpbnhpncmlaa.EntH Go.Proofs.Ytfefpbnhpncmlaa.EntI Go.Proofs.Ytfefpbnhpncmlaa.CatU Go.Proofs.Ytfefpbnhpncmlaa.CatK Go.Proofs.Ytfefpbnhpncmlaa.B8 Go.Proofs.Ytfefpbnhpncmlaa.CodL Go.Proofs.Ytfefpbnhpncmlaa.CatL Go.Proofs.Ytfefpbnhpncmlaa.PtrA Go.Proofs.Ytfefpbnhpncmlaa.PtrE Go.Proofs.Ytfefpbnhpncmlaa.PtrF
set_option linter.unusedVariables false
set_option linter.unusedSimpArgs false

theorem sh_inj {a b : Int} (h0 : 0 ≤ a) (h1 : a ≤ 1152921504606846976) (g0 : 0 ≤ b) (g1 : b ≤ 1152921504606846976) {r s : List Int} (h : shI a ++ r = shI b ++ s) : a = b ∧ r = s := by
  have := numR_shI h0 h1 r
  rw [h, numR_shI g0 g1] at this
  simp only [Prod.mk.injEq] at this
  exact ⟨this.1.symm, this.2.symm⟩
theorem text_inj {a b : ByteArray} (h0 : a.size ≤ 63) (g0 : b.size ≤ 63) {r s : List Int} (h : textL a ++ r = textL b ++ s) : a = b ∧ r = s := by
  have e := readText_textL a 63 h0 (by decide) r
  rw [h, readText_textL b 63 g0 (by decide)] at e
  simp only [Prod.mk.injEq] at e
  have e1 := e.1
  subst e1
  exact ⟨rfl, List.append_cancel_left h⟩
theorem ptr_inj {a b : Ptr} (h0 : Lays a) (g0 : Lays b) {r s : List Int} (h : ptrL a ++ r = ptrL b ++ s) : a = b ∧ r = s := by
  have e := rawP_ptrL h0 r
  rw [h, rawP_ptrL g0] at e
  subst e
  exact ⟨rfl, List.append_cancel_left h⟩
theorem entL_inj {e f : Ent} (he : OkE e) (hf : OkE f) (re : RightE e) (rf : RightE f) (h : entL e = entL f) : e = f := by
  rw [entL_t4, entL_t4] at h
  have ke := kind_bd re
  have kf := kind_bd rf
  obtain ⟨a0, h⟩ := sh_inj (by have := re.id.1; omega) re.id.2 (by have := rf.id.1; omega) rf.id.2 h
  obtain ⟨a1, h⟩ := sh_inj ke.1 ke.2.1 kf.1 kf.2.1 h
  obtain ⟨a2, h⟩ := sh_inj ke.2.2.1 ke.2.2.2 kf.2.2.1 kf.2.2.2 h
  unfold t4 at h
  obtain ⟨a3, h⟩ := text_inj re.n1 rf.n1 h
  obtain ⟨a4, h⟩ := ptr_inj (lays_of he.root re.root) (lays_of hf.root rf.root) h
  obtain ⟨a5, h⟩ := ptr_inj (lays_of he.dead re.dead) (lays_of hf.dead rf.dead) h
  unfold t7 at h
  obtain ⟨a6, h⟩ := sh_inj re.born.1 re.born.2 rf.born.1 rf.born.2 h
  obtain ⟨a7, h⟩ := sh_inj re.prev.1 re.prev.2 rf.prev.1 rf.prev.2 h
  obtain ⟨a8, h⟩ := sh_inj re.next.1 re.next.2 rf.next.1 rf.next.2 h
  obtain ⟨a9, h⟩ := sh_inj re.origin.1 re.origin.2 rf.origin.1 rf.origin.2 h
  obtain ⟨a10, _⟩ := sh_inj re.clones.1 re.clones.2 rf.clones.1 rf.clones.2 h
  obtain ⟨x0, x1, x2, x3, x4, x5, x6, x7, x8, x9, x10⟩ := e
  obtain ⟨y0, y1, y2, y3, y4, y5, y6, y7, y8, y9, y10⟩ := f
  simp only at a0 a1 a2 a3 a4 a5 a6 a7 a8 a9 a10
  subst a0 a1 a2 a3 a4 a5 a6 a7 a8 a9 a10
  rfl
open Classical in
/-- What bytes tell: an entry, or none and a fault's number. -/
noncomputable def readEs (L : List Int) : Ent × Int := if h : ∃ e0, OkE e0 ∧ RightE e0 ∧ entL e0 = L then (h.choose, 0) else (zeroE, 11)
theorem TellsReadE.fun_ {w w' : World} {L : List Int} {r : Ending} (h : TellsReadE w L r w') : r = .returned (.tuple #[.agg (encE (readEs L).1), .int .i64 (readEs L).2]) ∧ OkE (readEs L).1 ∧ Below w.heap.size w w' := by
  obtain ⟨hb, ⟨e, rfl, hk, hr, hl⟩ | ⟨rfl, hno⟩⟩ := h
  · have hx : ∃ e0, OkE e0 ∧ RightE e0 ∧ entL e0 = L := ⟨e, hk, hr, hl⟩
    have hs := hx.choose_spec
    have e1 : hx.choose = e := entL_inj hs.1 hk hs.2.1 hr (hs.2.2.trans hl.symm)
    have e2 : readEs L = (e, 0) := by
      unfold readEs
      rw [dif_pos hx, e1]
    rw [e2]
    exact ⟨rfl, hk, hb⟩
  · have e2 : readEs L = (zeroE, 11) := by
      unfold readEs
      rw [dif_neg]
      rintro ⟨v0, a, b, d⟩
      exact hno v0 a b d
    rw [e2]
    exact ⟨rfl, okZeroE, hb⟩

/-! ### An entry is equal to itself -/
/-- Two pointers are equal, or not: inside a struct. -/
theorem eq56d (p q : Ptr) (hp : p.sha.length = 32) (hq : q.sha.length = 32) (w : World) : (Op.equalIn 9999 56 (.agg (encP p)) (.agg (encP q))).run Try.prog w = .ok (decide (p = q)) w := by
  have hf := fields56
  rw [show (9999 : Nat) = 9998 + 1 from rfl, run_equalIn_struct w 9998 56 _ _ underl56 stood56]
  generalize (Try.prog.fieldsOf 56).toList = fs at hf
  rcases fs with _ | ⟨f0, fs⟩; · simp at hf
  rcases fs with _ | ⟨f1, fs⟩; · simp at hf
  rcases fs with _ | ⟨f2, fs⟩; · simp at hf
  rcases fs with _ | ⟨f3, fs⟩; · simp at hf
  rcases fs with _ | ⟨f4, fs⟩; · simp at hf
  rcases fs with _ | ⟨f5, fs⟩
  · simp only [List.map_cons, List.map_nil, List.cons.injEq, Prod.mk.injEq, and_true] at hf
    obtain ⟨⟨n0, t0, o0⟩, ⟨n1, t1, o1⟩, ⟨n2, t2, o2⟩, ⟨n3, t3, o3⟩, n4, t4, o4⟩ := hf
    have a0 : ∀ (p : Ptr) (w : World), (part 3 (encP p) 0).run Try.prog w = .ok (.int .i64 p.at_) w := fun p w => by simp [part, agg3, encP]
    have a1 : ∀ (p : Ptr) (w : World), (part 3 (encP p) 1).run Try.prog w = .ok (.int .i64 p.birth) w := fun p w => by simp [part, agg3, encP]
    have a2 : ∀ (p : Ptr) (w : World), (part 3 (encP p) 2).run Try.prog w = .ok (.int .i64 p.len) w := fun p w => by simp [part, agg3, encP]
    have a3 : ∀ (p : Ptr) (w : World), (part 53 (encP p) 3).run Try.prog w = .ok (.int .u32 p.crc) w := fun p w => by simp [part, agg53, encP]
    have e0 : ("At" = "_") = False := by decide
    have e1 : ("Birth" = "_") = False := by decide
    have e2 : ("Length" = "_") = False := by decide
    have e3 : ("Crc" = "_") = False := by decide
    have e4 : ("Sha" = "_") = False := by decide
    have q3 : ∀ (x y : Int) (w : World), (Op.equalIn 9998 3 (.int .i64 x) (.int .i64 y)).run Try.prog w = .ok (x == y) w := fun x y w => run_equalIn_int (P := Try.prog) w 9997 3 .i64 .i64 x y Try.underlying3
    have q53 : ∀ (x y : Int) (w : World), (Op.equalIn 9998 53 (.int .u32 x) (.int .u32 y)).run Try.prog w = .ok (x == y) w := fun x y w => run_equalIn_int (P := Try.prog) w 9997 53 .u32 .u32 x y Try.underlying53
    have qs : ∀ w : World, (Op.equalIn 9998 54 (.agg (p.sha.map (Value.int .u8)).toArray) (.agg (q.sha.map (Value.int .u8)).toArray)).run Try.prog w = .ok (p.sha == q.sha) w := fun w => run_equalIn_bytes (P := Try.prog) w 9996 54 5 32 Try.underlying54 Try.underlying5 sz5 _ _ hp hq
    have s1 := fun w => part_sha hp w
    have s2 := fun w => part_sha hq w
    have hd : decide (p = q) = (p.at_ == q.at_ && (p.birth == q.birth && (p.len == q.len && (p.crc == q.crc && p.sha == q.sha)))) := by
      obtain ⟨pa, pb, pl, pc', ps⟩ := p
      obtain ⟨qa, qb, ql, qc, qs⟩ := q
      simp only [Ptr.mk.injEq]
      rw [Bool.eq_iff_iff]
      simp
    rw [hd]
    cases h0 : p.at_ == q.at_ <;> cases h1 : p.birth == q.birth <;> cases h2 : p.len == q.len <;> cases h3 : p.crc == q.crc <;> cases h4 : p.sha == q.sha <;>
      simp [Op.eqFields, n0, n1, n2, n3, n4, t0, t1, t2, t3, t4, o0, o1, o2, o3, o4, a0, a1, a2, a3, q3, q53, qs, s1, s2, h0, h1, h2, h3, h4, Result.andThen]
  · simp at hf

theorem agg9 (w : World) : (isAgg 9).run Try.prog w = .ok false w := by kernel_rfl
theorem agg56 (w : World) : (isAgg 56).run Try.prog w = .ok true w := by kernel_rfl
theorem sz56 (w : World) : (sizeOf 56).run Try.prog w = .ok 36 w := by kernel_rfl
theorem part_i {e : Ent} (i : Nat) (x : Int) (h : (encE e)[i]? = some (.int .i64 x)) (w : World) : (part 3 (encE e) i).run Try.prog w = .ok (.int .i64 x) w := by
  have h2 : (encE e)[i]?.getD undef = .int .i64 x := by rw [h]; rfl
  simp only [part, Sem.run_bind, agg3, Result.andThen_ok, Bool.false_eq_true, if_false, Sem.run_pure]
  first | (rw [h]; rfl) | simp [h]
theorem part_s {e : Ent} (w : World) : (part 9 (encE e) 3).run Try.prog w = .ok (.string e.name) w := by
  have h := encE_3 e
  simp only [part, Sem.run_bind, agg9, Result.andThen_ok, Bool.false_eq_true, if_false, Sem.run_pure]
  first | (rw [h]; rfl) | simp [h]
theorem part_p {e : Ent} (o : Nat) (q : Ptr) (hq : Ok q) (hk : OkE e) (ho : o + 36 ≤ 81) (h : ∀ j, j < 36 → (encE e)[o + j]? = (encP q)[j]?) (w : World) : (part 56 (encE e) o).run Try.prog w = .ok (.agg (encP q)) w := by
  unfold part
  simp only [Sem.run_bind, agg56, sz56, Result.andThen_ok, if_true, Sem.run_pure]
  congr 2
  apply Array.ext_getElem?
  intro j
  by_cases hj : j < 36
  · rw [← h j hj, Array.getElem?_extract]
    rw [if_pos (by rw [encE_size hk]; omega)]
  · rw [Array.getElem?_eq_none (by simp [encE_size hk]; omega), Array.getElem?_eq_none (by rw [encP_size hq.len]; omega)]

theorem fields59 : (Try.prog.fieldsOf 59).toList.map (fun f => (f.name, f.type, f.offset)) = [("Id", 3, 0), ("Kind", 3, 1), ("Owner", 3, 2), ("Name", 9, 3), ("Root", 56, 4), ("Dead", 56, 40), ("Born", 3, 76), ("Prev", 3, 77), ("Next", 3, 78), ("Origin", 3, 79), ("Clones", 3, 80)] := by kernel_rfl
theorem stood59 : Try.prog.stoodInHeld 59 = false := by kernel_rfl
theorem fields62 : (Try.prog.fieldsOf 62).toList.map (fun f => (f.name, f.type, f.offset)) = [("Id", 3, 0), ("Kind", 3, 1), ("Owner", 3, 2), ("Name", 9, 3), ("Root", 56, 4), ("Dead", 56, 40), ("Born", 3, 76), ("Prev", 3, 77), ("Next", 3, 78), ("Origin", 3, 79), ("Clones", 3, 80)] := by kernel_rfl
theorem stood62 : Try.prog.stoodInHeld 62 = false := by kernel_rfl
theorem eqE (T : TypeId) (hu : Try.prog.underlying T = some (.struct (Try.prog.fieldsOf T))) (hs : Try.prog.stoodInHeld T = false) (hf : (Try.prog.fieldsOf T).toList.map (fun f => (f.name, f.type, f.offset)) = [("Id", 3, 0), ("Kind", 3, 1), ("Owner", 3, 2), ("Name", 9, 3), ("Root", 56, 4), ("Dead", 56, 40), ("Born", 3, 76), ("Prev", 3, 77), ("Next", 3, 78), ("Origin", 3, 79), ("Clones", 3, 80)]) (e : Ent) (hk : OkE e) (w : World) : (Op.equalIn 10000 T (.agg (encE e)) (.agg (encE e))).run Try.prog w = .ok true w := by
  rw [show (10000 : Nat) = 9999 + 1 from rfl, run_equalIn_struct w 9999 T _ _ hu hs]
  generalize (Try.prog.fieldsOf T).toList = fs at hf
  rcases fs with _ | ⟨f0, fs⟩; · simp at hf
  rcases fs with _ | ⟨f1, fs⟩; · simp at hf
  rcases fs with _ | ⟨f2, fs⟩; · simp at hf
  rcases fs with _ | ⟨f3, fs⟩; · simp at hf
  rcases fs with _ | ⟨f4, fs⟩; · simp at hf
  rcases fs with _ | ⟨f5, fs⟩; · simp at hf
  rcases fs with _ | ⟨f6, fs⟩; · simp at hf
  rcases fs with _ | ⟨f7, fs⟩; · simp at hf
  rcases fs with _ | ⟨f8, fs⟩; · simp at hf
  rcases fs with _ | ⟨f9, fs⟩; · simp at hf
  rcases fs with _ | ⟨f10, fs⟩; · simp at hf
  rcases fs with _ | ⟨f11, fs⟩
  · simp only [List.map_cons, List.map_nil, List.cons.injEq, Prod.mk.injEq, and_true] at hf
    obtain ⟨⟨n0, t0, o0⟩, ⟨n1, t1, o1⟩, ⟨n2, t2, o2⟩, ⟨n3, t3, o3⟩, ⟨n4, t4, o4⟩, ⟨n5, t5, o5⟩, ⟨n6, t6, o6⟩, ⟨n7, t7, o7⟩, ⟨n8, t8, o8⟩, ⟨n9, t9, o9⟩, n10, t10, o10⟩ := hf
    have a0 := part_i 0 _ (encE_0 e)
    have a1 := part_i 1 _ (encE_1 e)
    have a2 := part_i 2 _ (encE_2 e)
    have a3 := part_s (e := e)
    have a4 := part_p 4 e.root hk.root hk (by decide) (encE_root hk)
    have a5 := part_p 40 e.dead hk.dead hk (by decide) (encE_dead hk)
    have a6 := part_i 76 _ (encE_tail hk 0)
    have a7 := part_i 77 _ (encE_tail hk 1)
    have a8 := part_i 78 _ (encE_tail hk 2)
    have a9 := part_i 79 _ (encE_tail hk 3)
    have a10 := part_i 80 _ (encE_tail hk 4)
    have q3 : ∀ (x : Int) (w : World), (Op.equalIn 9999 3 (.int .i64 x) (.int .i64 x)).run Try.prog w = .ok true w := fun x w => by
      have := run_equalIn_int (P := Try.prog) w 9998 3 .i64 .i64 x x Try.underlying3
      simpa using this
    have q9 : ∀ (x : ByteArray) (w : World), (Op.equalIn 9999 9 (.string x) (.string x)).run Try.prog w = .ok true w := fun x w => by
      have := run_equalIn_string (P := Try.prog) w 9998 9 x x Try.underlying9
      simpa using this
    have q4 : ∀ w : World, (Op.equalIn 9999 56 (.agg (encP e.root)) (.agg (encP e.root))).run Try.prog w = .ok true w := fun w => by rw [eq56d e.root e.root hk.root.len hk.root.len w, decide_eq_true rfl]
    have q5 : ∀ w : World, (Op.equalIn 9999 56 (.agg (encP e.dead)) (.agg (encP e.dead))).run Try.prog w = .ok true w := fun w => by rw [eq56d e.dead e.dead hk.dead.len hk.dead.len w, decide_eq_true rfl]
    have m0 : ("Id" = "_") = False := by decide
    have m1 : ("Kind" = "_") = False := by decide
    have m2 : ("Owner" = "_") = False := by decide
    have m3 : ("Name" = "_") = False := by decide
    have m4 : ("Root" = "_") = False := by decide
    have m5 : ("Dead" = "_") = False := by decide
    have m6 : ("Born" = "_") = False := by decide
    have m7 : ("Prev" = "_") = False := by decide
    have m8 : ("Next" = "_") = False := by decide
    have m9 : ("Origin" = "_") = False := by decide
    have m10 : ("Clones" = "_") = False := by decide
    simp [Op.eqFields, n0, n1, n2, n3, n4, n5, n6, n7, n8, n9, n10, t0, t1, t2, t3, t4, t5, t6, t7, t8, t9, t10, o0, o1, o2, o3, o4, o5, o6, o7, o8, o9, o10, a0, a1, a2, a3, a4, a5, a6, a7, a8, a9, a10, q3, q9, q4, q5, Result.andThen]
  · simp at hf
theorem eql62 (e : Ent) (hk : OkE e) (w : World) : (binOp .eql 62 (.agg (encE e)) (.agg (encE e))).run Try.prog w = .ok (.bool true) w := by
  rw [run_eql_struct, eqE 62 u62 stood62 fields62 e hk w]
  rfl
theorem neq59 (e : Ent) (hk : OkE e) (w : World) : (binOp .neq 59 (.agg (encE e)) (.agg (encE e))).run Try.prog w = .ok (.bool false) w := by
  rw [run_neq_struct, eqE 59 u59 stood59 fields59 e hk w]
  rfl
end Go.Proofs.Ytfefpbnhpncmlaa.EntJ
/- What an entry that can be read as data looks like in memory. -/
namespace Go.Proofs.Ytfefpbnhpncmlaa.EntZ
open Go.RowKit Go.Proofs.YtfefpbnhpncmlaaW.PrintWords Go.Proofs.YtfefpbnhpncmlaaW.Opens Go.Proofs.Ytfefpbnhpncmlaa.CatK Go.Proofs.Ytfefpbnhpncmlaa.CatZ Go.Proofs.Ytfefpbnhpncmlaa.CodL Go.Proofs.Ytfefpbnhpncmlaa.CatL Go.Proofs.Ytfefpbnhpncmlaa.PtrE Go.Proofs.Ytfefpbnhpncmlaa.EntL Go.Proofs.Ytfefpbnhpncmlaa.EntJ Go.Proofs.Ytfefpbnhpncmlaa.EntE Go.Proofs.Ytfefpbnhpncmlaa.B8
set_option linter.unusedVariables false
theorem cells59 : Try.prog.cellsOf 59 = 81 := by kernel_rfl
theorem cells9 : Try.prog.cellsOf 9 = 1 := by kernel_rfl
theorem i_any : Opens Try.prog 3 (Kd.int .i64) (fun _ => True) := opens_mono (opens_int Try.underlying3) (fun _ _ => trivial)
theorem s_any : Opens Try.prog 9 Kd.string (fun _ => True) := opens_mono (opens_string Try.underlying9) (fun _ _ => trivial)
theorem opensF_any {α β : Type} {f : Field} {fs : List Field} {off : Nat} {d0 : Kd α} {d1 : Kd β} (o : f.offset = off) (s : Try.prog.cellsOf f.type = d0.sz) (h0 : Opens Try.prog f.type d0 (fun _ => True)) (h1 : OpensF Try.prog fs (off + d0.sz) d1 (fun _ => True)) :
    OpensF Try.prog (f :: fs) off (Kd.pair d0 d1) (fun _ => True) := by
  intro H enc w base spare held n cs xs a b c
  obtain ⟨x, hx, _⟩ := opensF_cons (G0 := fun _ => True) (G1 := fun _ => True) o s h0 h1 H enc w base spare held n cs xs a b c
  exact ⟨x, hx, trivial⟩
abbrev kI := Kd.int .i64
abbrev k11 := Kd.pair kI (Kd.pair kI (Kd.pair kI (Kd.pair Kd.string (Kd.pair kP (Kd.pair kP (Kd.pair kI (Kd.pair kI (Kd.pair kI (Kd.pair kI kI)))))))))
theorem opens59' : Opens Try.prog 59 k11 (fun _ => True) := by
  refine opens_struct u59 (by rw [cells59]; rfl) ?_
  have hf := fields59
  generalize (Try.prog.fieldsOf 59).toList = fs at hf
  rcases fs with _ | ⟨f0, fs⟩; · simp at hf
  rcases fs with _ | ⟨f1, fs⟩; · simp at hf
  rcases fs with _ | ⟨f2, fs⟩; · simp at hf
  rcases fs with _ | ⟨f3, fs⟩; · simp at hf
  rcases fs with _ | ⟨f4, fs⟩; · simp at hf
  rcases fs with _ | ⟨f5, fs⟩; · simp at hf
  rcases fs with _ | ⟨f6, fs⟩; · simp at hf
  rcases fs with _ | ⟨f7, fs⟩; · simp at hf
  rcases fs with _ | ⟨f8, fs⟩; · simp at hf
  rcases fs with _ | ⟨f9, fs⟩; · simp at hf
  rcases fs with _ | ⟨f10, fs⟩; · simp at hf
  rcases fs with _ | ⟨f11, fs⟩
  · simp only [List.map_cons, List.map_nil, List.cons.injEq, Prod.mk.injEq, and_true] at hf
    obtain ⟨⟨n0, t0, o0⟩, ⟨n1, t1, o1⟩, ⟨n2, t2, o2⟩, ⟨n3, t3, o3⟩, ⟨n4, t4, o4⟩, ⟨n5, t5, o5⟩, ⟨n6, t6, o6⟩, ⟨n7, t7, o7⟩, ⟨n8, t8, o8⟩, ⟨n9, t9, o9⟩, n10, t10, o10⟩ := hf
    refine opensF_any (d0 := kI) o0 (by rw [t0]; exact cells3) (by rw [t0]; exact i_any) ?_
    refine opensF_any (d0 := kI) o1 (by rw [t1]; exact cells3) (by rw [t1]; exact i_any) ?_
    refine opensF_any (d0 := kI) o2 (by rw [t2]; exact cells3) (by rw [t2]; exact i_any) ?_
    refine opensF_any (d0 := Kd.string) o3 (by rw [t3]; exact cells9) (by rw [t3]; exact s_any) ?_
    refine opensF_any (d0 := kP) o4 (by rw [t4]; exact cells56) (by rw [t4]; exact opens56) ?_
    refine opensF_any (d0 := kP) o5 (by rw [t5]; exact cells56) (by rw [t5]; exact opens56) ?_
    refine opensF_any (d0 := kI) o6 (by rw [t6]; exact cells3) (by rw [t6]; exact i_any) ?_
    refine opensF_any (d0 := kI) o7 (by rw [t7]; exact cells3) (by rw [t7]; exact i_any) ?_
    refine opensF_any (d0 := kI) o8 (by rw [t8]; exact cells3) (by rw [t8]; exact i_any) ?_
    refine opensF_any (d0 := kI) o9 (by rw [t9]; exact cells3) (by rw [t9]; exact i_any) ?_
    exact opensF_last (P := Try.prog) (d := kI) o10 (by rw [t10]; exact cells3) (by rw [t10]; exact i_any)
  · simp at hf
/-- An entry's cells. -/
theorem opens59 {H : Type} {enc : TypeId × Value → H} {w : World} {base : Nat} {spare : Nat → Bool} {held : Bool} {n : Nat} {cs : List Value} {x : DataW H × List MemPlace} (h : DataW.trod enc Try.prog w base spare held n 59 cs = some x) : ∃ e : Ent, cs = (encE e).toList ∧ OkE e := by
  obtain ⟨⟨a0, a1, a2, a3, a4, a5, a6, a7, a8, a9, a10⟩, hk, _⟩ := opens59' H enc w base spare held n cs x h
  obtain ⟨c0, r0, rfl, h0, c1, r1, rfl, h1, c2, r2, rfl, h2, c3, r3, rfl, h3, c4, r4, rfl, h4, c5, r5, rfl, h5, c6, r6, rfl, h6, c7, r7, rfl, h7, c8, r8, rfl, h8, c9, c10, rfl, h9, h10⟩ := hk
  have e0 : c0 = [.int .i64 a0] := h0
  have e1 : c1 = [.int .i64 a1] := h1
  have e2 : c2 = [.int .i64 a2] := h2
  have e3 : c3 = [.string a3] := h3
  obtain ⟨e4, k4⟩ := h4
  obtain ⟨e5, k5⟩ := h5
  have e6 : c6 = [.int .i64 a6] := h6
  have e7 : c7 = [.int .i64 a7] := h7
  have e8 : c8 = [.int .i64 a8] := h8
  have e9 : c9 = [.int .i64 a9] := h9
  have e10 : c10 = [.int .i64 a10] := h10
  subst e0 e1 e2 e3 e4 e5 e6 e7 e8 e9 e10
  refine ⟨⟨a0, a1, a2, a3, a4, a5, a6, a7, a8, a9, a10⟩, ?_, ⟨k4, k5⟩⟩
  simp [encE]
end Go.Proofs.Ytfefpbnhpncmlaa.EntZ
/- CatalogBytes: the law. -/
namespace Go.Proofs.Ytfefpbnhpncmlaa.EntK
open Go.RowKit Go.Proofs.Ytfefpbnhpncmlaa.EntL Go.Proofs.Ytfefpbnhpncmlaa.EntB Go.Proofs.Ytfefpbnhpncmlaa.EntC Go.Proofs.Ytfefpbnhpncmlaa.EntD Go.Proofs.Ytfefpbnhpncmlaa.EntE Go.Proofs.Ytfefpbnhpncmlaa.EntH Go.Proofs.Ytfefpbnhpncmlaa.EntI Go.Proofs.Ytfefpbnhpncmlaa.EntJ Go.Proofs.Ytfefpbnhpncmlaa.CatV Go.Proofs.Ytfefpbnhpncmlaa.CatK Go.Proofs.Ytfefpbnhpncmlaa.CatY Go.Proofs.Ytfefpbnhpncmlaa.PtrB Go.Proofs.Ytfefpbnhpncmlaa.Agg Go.Proofs.Ytfefpbnhpncmlaa.B8 Go.Proofs.Ytfefpbnhpncmlaa.CodL Go.Proofs.Ytfefpbnhpncmlaa.CodA Go.Proofs.Ytfefpbnhpncmlaa.CodB Go.Proofs.Ytfefpbnhpncmlaa.CatL Go.Proofs.Ytfefpbnhpncmlaa.PtrA Go.Proofs.Ytfefpbnhpncmlaa.PtrE Go.Proofs.Ytfefpbnhpncmlaa.PtrF Go.Proofs.Ytfefpbnhpncmlaa.PBaseSigns Go.Proofs.YtfefpbnhpncmlaaW.PrintWords Go.Proofs.YtfefpbnhpncmlaaW.PrintLast Go.Proofs.YtfefpbnhpncmlaaW.PrintMore
set_option linter.unusedVariables false
set_option linter.unusedSimpArgs false

def eA : Ent := { zeroE with id := 1, kind := 1, name := ⟨#[97]⟩ }
abbrev A59 : Array Value := #[.int .i64 1, .int .i64 1, .int .i64 0, .string ⟨#[97]⟩, .int .i64 0, .int .i64 0, .int .i64 0, .int .u32 0, .int .u8 0, .int .u8 0, .int .u8 0, .int .u8 0, .int .u8 0, .int .u8 0, .int .u8 0, .int .u8 0, .int .u8 0, .int .u8 0, .int .u8 0, .int .u8 0, .int .u8 0, .int .u8 0, .int .u8 0, .int .u8 0, .int .u8 0, .int .u8 0, .int .u8 0, .int .u8 0, .int .u8 0, .int .u8 0, .int .u8 0, .int .u8 0, .int .u8 0, .int .u8 0, .int .u8 0, .int .u8 0, .int .u8 0, .int .u8 0, .int .u8 0, .int .u8 0, .int .i64 0, .int .i64 0, .int .i64 0, .int .u32 0, .int .u8 0, .int .u8 0, .int .u8 0, .int .u8 0, .int .u8 0, .int .u8 0, .int .u8 0, .int .u8 0, .int .u8 0, .int .u8 0, .int .u8 0, .int .u8 0, .int .u8 0, .int .u8 0, .int .u8 0, .int .u8 0, .int .u8 0, .int .u8 0, .int .u8 0, .int .u8 0, .int .u8 0, .int .u8 0, .int .u8 0, .int .u8 0, .int .u8 0, .int .u8 0, .int .u8 0, .int .u8 0, .int .u8 0, .int .u8 0, .int .u8 0, .int .u8 0, .int .i64 0, .int .i64 0, .int .i64 0, .int .i64 0, .int .i64 0]
theorem encA : encE eA = A59 := by kernel_rfl
theorem okA : OkE eA := ⟨okZero, okZero⟩
theorem rightA : RightE eA := ⟨.inl ⟨rfl, rfl⟩, ⟨by decide, by decide⟩, by decide, by decide, .inl rfl, .inl rfl, ⟨by decide, by decide⟩, ⟨by decide, by decide⟩, ⟨by decide, by decide⟩, ⟨by decide, by decide⟩, ⟨by decide, by decide⟩⟩
theorem a_calls (w : World) : Calls Try.prog 34 #[.agg A59] w fun r w' => r = .returned (.bool true) ∧ Below w.heap.size w w' := by
  rw [← encA]
  refine (rightE_calls eA okA w).mono ?_
  rw [decide_eq_true rightA]
  exact fun _ _ h => h
section
variable {ops : Array Oper} {o : Oper} {rest : List Oper} {a : Act} {Q : Exit → Act → World → Prop}
/-- An entry is laid in a new block. -/
theorem store_E {w W' : World} (hgd : o.guard = none) (x y : Operand) (ho : o.op = .store 59 x y) (e : Ent) (hk : OkE e) (hy : a.eval y = .agg (encE e)) (hW : W' = w.alloc (.cells Z59 59)) (hx : a.eval x = .pointer (some ⟨w.heap.size, 0, none⟩))
    (h : wpList Try.prog ops Q rest (a.put o.dst undef) (w.alloc (.cells (encE e) 59))) : wpList Try.prog ops Q (o :: rest) a W' := by
  subst hW
  refine wpList_store_row hgd 59 x y ho w.heap.size (encE e) hx hy 59 Z59 (heap_new _ _) (i59 hk) (by rw [encE_size hk]; rfl) (encE_one e) ?_
  rw [World.setRow_alloc_new]
  exact h
theorem store_E2 {w W' : World} (hgd : o.guard = none) (x y : Operand) (ho : o.op = .store 62 x y) (e : Ent) (hk : OkE e) (hy : a.eval y = .agg (encE e)) (hW : W' = w.alloc (.cells Z59 62)) (hx : a.eval x = .pointer (some ⟨w.heap.size, 0, none⟩))
    (h : wpList Try.prog ops Q rest (a.put o.dst undef) (w.alloc (.cells (encE e) 62))) : wpList Try.prog ops Q (o :: rest) a W' := by
  subst hW
  refine wpList_store_row hgd 62 x y ho w.heap.size (encE e) hx hy 62 Z59 (heap_new _ _) (i62 hk) (by rw [encE_size hk]; rfl) (encE_one e) ?_
  rw [World.setRow_alloc_new]
  exact h
end

set_option maxRecDepth 100000 in
set_option maxHeartbeats 2000000 in
theorem law (e : Ent) (hk : OkE e) (Ab : Option Addr) (c n : Nat) (L : List Int) (w : World) (hn : n = L.length) (hr : C8 w Ab n L) (hb : Byt L) (hc : n ≤ c) :
    Calls Try.prog 9 #[.agg (encE e), .slice Ab n c] w fun r w' => r = .returned (.bool true) ∧ Below w.heap.size w w' := by
  subst hn
  have HK := Aside0.mk hk
  have B0 := Aside0.mk (below_alloc (Below.refl w.heap.size w) (.cells (encE e) 59))
  have G0 := Aside0.mk (blk_new w (.cells (encE e) 59))
  have HC0 := Aside0.mk (And.intro hr (And.intro hb hc))
  have x3 := (ec_of G0.out hk).x3
  obtain ⟨P, hP⟩ : ∃ P : Ending → World → Prop, P = (fun r w' => r = .returned (.bool true) ∧ Below w.heap.size w w') := ⟨_, rfl⟩
  rw [← hP]
  have HP := Aside0.mk hP
  clear hr hb hc hP hk
  by_cases h1 : 200 < e.name.size
  · go_enter Try.func9, Try.ntmps9
    go_wp2
    rw [HP.out]
    exact ⟨rfl, B0.out⟩
  by_cases h3 : 600 < L.length
  · go_enter Try.func9, Try.ntmps9
    go_wp2
    rw [HP.out]
    exact ⟨rfl, B0.out⟩
  have d1 : decide ((200 : Int) < (e.name.size : Int)) = false := decide_eq_false (by omega)
  have d2 : decide ((600 : Int) < (L.length : Int)) = false := decide_eq_false (by omega)
  go_enter Try.func9, Try.ntmps9
  go_wp2_with (refine load_E rfl (.tmp 2) rfl w.heap.size e rfl HK.out 59 G0.out ?_)
  refine (putE_calls e HK.out _).mono ?_
  rintro r w1 ⟨A1, n1, c1, rfl, hn1, hc1, hr1, hb1⟩
  have M1 := Aside0.mk (And.intro hn1 (And.intro hc1 hr1))
  have G1 := Aside0.mk (blk_below G0.out hb1)
  have B1 := Aside0.mk (below_then B0.out B0.out.size hb1)
  clear hn1 hc1 hr1 hb1 G0 B0 x3
  obtain ⟨q1, hq1⟩ : ∃ q : Int, q = (if RightE e then 0 else 2) := ⟨_, rfl⟩
  have HQ1 := Aside0.mk hq1
  rw [← hq1]
  clear hq1
  go_wp2_with (refine load_E rfl (.tmp 2) rfl w.heap.size e rfl HK.out 59 G1.out ?_)
  refine (rputE_calls e HK.out _).mono ?_
  rintro r w2 ⟨A2, n2, c2, rfl, hn2, hc2, hr2, hb2⟩
  rw [← HQ1.out]
  have M2 := Aside0.mk (And.intro (Kd.C_below M1.out.2.2 hb2) hr2)
  have G2 := Aside0.mk (blk_below G1.out hb2)
  have B2 := Aside0.mk (below_then B1.out B1.out.size hb2)
  clear hn2 hc2 hr2 hb2 G1 B1 M1
  generalize (if RightE e then entL e else []) = lx at *
  go_wp2_with fail
  refine (readE_calls Ab c L.length L rfl _ (Kd.C_below HC0.out.1 B2.out) HC0.out.2.1 HC0.out.2.2 (by omega)).mono ?_
  intro r w3 ht3
  obtain ⟨rfl, hke, hb3⟩ := TellsReadE.fun_ ht3
  clear ht3
  obtain ⟨f, hf⟩ : ∃ x, x = (readEs L).1 := ⟨_, rfl⟩
  obtain ⟨er, her⟩ : ∃ x, x = (readEs L).2 := ⟨_, rfl⟩
  rw [← hf] at hke
  rw [← hf, ← her]
  have HRD := Aside0.mk (And.intro hf (And.intro her hke))
  have bal := Aside0.mk (hb3.alloc hb3.size (.cells (encE f) 59))
  have M3 := Aside0.mk (And.intro (Kd.C_below M2.out.1 bal.out) (Kd.C_below M2.out.2 bal.out))
  have G3 := Aside0.mk (And.intro (blk_below G2.out bal.out) (blk_new w3 (.cells (encE f) 59)))
  have B3 := Aside0.mk (below_then B2.out B2.out.size bal.out)
  clear hf her hke hb3 M2 G2 B2 bal
  go_wp2_with (refine store_E (w := w3) rfl (.tmp 9) (.tmp 35) rfl f HRD.out.2.2 rfl rfl rfl ?_)
  refine (rreadE_calls Ab c L.length L rfl _ (Kd.C_below HC0.out.1 B3.out) HC0.out.2.1 HC0.out.2.2 (by omega)).mono ?_
  intro r w4 ht4
  obtain ⟨rfl, _, hb4⟩ := TellsReadE.fun_ ht4
  clear ht4
  rw [← HRD.out.1, ← HRD.out.2.1]
  have bal := Aside0.mk (hb4.alloc hb4.size (.cells (encE f) 62))
  have M4 := Aside0.mk (And.intro (Kd.C_below M3.out.1 bal.out) (Kd.C_below M3.out.2 bal.out))
  have G4 := Aside0.mk (And.intro (blk_below G3.out.1 bal.out) (And.intro (blk_below G3.out.2 bal.out) (blk_new w4 (.cells (encE f) 62))))
  have B4 := Aside0.mk (below_then B3.out B3.out.size bal.out)
  clear hb4 M3 G3 B3 bal
  go_wp2_with (refine store_E2 (w := w4) rfl (.tmp 11) (.tmp 40) rfl f HRD.out.2.2 rfl rfl rfl ?_)
  generalize (w4.alloc (.cells (encE f) 62)) = W5 at *
  generalize w3.heap.size = g3 at *
  generalize w4.heap.size = g4 at *
  generalize hS1 : strOfNums lx = S1 at *
  have HS1 := Aside0.mk hS1
  clear hS1
  obtain ⟨q2, hq2⟩ : ∃ q : Bool, q = decide (RightE e) := ⟨_, rfl⟩
  have HQ2 := Aside0.mk hq2
  clear hq2
  have hI := i59 HK.out
  have hI3 := i59 HRD.out.2.2
  have hI4 := i62 HRD.out.2.2
  have hql := eql62 f HRD.out.2.2
  refine wp_region_held_drew (S := fun w' => Below W5.heap.size W5 w') (by kernel_rfl) (below_drew (Below.refl _ _)) (fun hW => ?_)
  refine wpAnyH_take (i := 0) (oi := ⟨some 42, _, _, _, _, _⟩) (v := .slice A1 n1 c1) rfl (by kernel_rfl) (by kernel_rfl) (by kernel_rfl) (fun _ _ _ h => h) (.inl ⟨by rfl, fun W1 h1 => by go_simp⟩) hW ?_
  try simp only [Act.put, List.setIfInBounds_toArray, List.set_cons_zero, List.set_cons_succ]
  refine wpAnyH_take (i := 1) (oi := ⟨some 43, _, _, _, _, _⟩) (v := .string S1) rfl (by kernel_rfl) (by kernel_rfl) (by kernel_rfl) (fun _ _ _ h => h) (.inl ⟨by rfl, fun W1 h1 => by (have x1 := Kd.C_string (c := c1) (P := Try.prog) Try.underlying31 Try.underlying5 Try.underlying9 (Kd.C_below M4.out.1 h1)); rw [HS1.out] at x1; go_simp⟩) hW ?_
  try simp only [Act.put, List.setIfInBounds_toArray, List.set_cons_zero, List.set_cons_succ]
  refine wpAnyH_take (i := 2) (oi := ⟨some 44, _, _, _, _, _⟩) (v := .slice A2 n2 c2) rfl (by kernel_rfl) (by kernel_rfl) (by kernel_rfl) (fun _ _ _ h => h) (.inl ⟨by rfl, fun W1 h1 => by go_simp⟩) hW ?_
  try simp only [Act.put, List.setIfInBounds_toArray, List.set_cons_zero, List.set_cons_succ]
  refine wpAnyH_take (i := 3) (oi := ⟨some 45, _, _, _, _, _⟩) (v := .string S1) rfl (by kernel_rfl) (by kernel_rfl) (by kernel_rfl) (fun _ _ _ h => h) (.inl ⟨by rfl, fun W1 h1 => by (have x1 := Kd.C_string (c := c2) (P := Try.prog) Try.underlying31 Try.underlying5 Try.underlying9 (Kd.C_below M4.out.2 h1)); rw [HS1.out] at x1; go_simp⟩) hW ?_
  try simp only [Act.put, List.setIfInBounds_toArray, List.set_cons_zero, List.set_cons_succ]
  refine wpAnyH_take (i := 4) (oi := ⟨some 46, _, _, _, _, _⟩) (v := .bool true) rfl (by kernel_rfl) (by kernel_rfl) (by kernel_rfl) (fun _ _ _ h => h) (.inl ⟨by rfl, fun W1 h1 => by go_simp⟩) hW ?_
  try simp only [Act.put, List.setIfInBounds_toArray, List.set_cons_zero, List.set_cons_succ]
  refine wpAnyH_take (i := 5) (oi := ⟨some 47, _, _, _, _, _⟩) (v := .bool true) rfl (by kernel_rfl) (by kernel_rfl) (by kernel_rfl) (fun _ _ _ h => h) (.inl ⟨by rfl, fun W1 h1 => by go_simp⟩) hW ?_
  try simp only [Act.put, List.setIfInBounds_toArray, List.set_cons_zero, List.set_cons_succ]
  refine wpAnyH_take (i := 6) (oi := ⟨some 48, _, _, _, _, _⟩) (v := .int .i64 q1) rfl (by kernel_rfl) (by kernel_rfl) (by kernel_rfl) (fun _ _ _ h => h) (.inl ⟨by rfl, fun W1 h1 => by go_simp⟩) hW ?_
  try simp only [Act.put, List.setIfInBounds_toArray, List.set_cons_zero, List.set_cons_succ]
  refine wpAnyH_take (i := 7) (oi := ⟨some 49, _, _, _, _, _⟩) (v := .int .i64 q1) rfl (by kernel_rfl) (by kernel_rfl) (by kernel_rfl) (fun _ _ _ h => h) (.inl ⟨by rfl, fun W1 h1 => by go_simp⟩) hW ?_
  try simp only [Act.put, List.setIfInBounds_toArray, List.set_cons_zero, List.set_cons_succ]
  refine wpAnyH_take (i := 8) (oi := ⟨some 50, _, _, _, _, _⟩) (v := .bool true) rfl (by kernel_rfl) (by kernel_rfl) (by kernel_rfl) (fun _ _ _ h => h) (.inl ⟨by rfl, fun W1 h1 => by go_simp⟩) hW ?_
  try simp only [Act.put, List.setIfInBounds_toArray, List.set_cons_zero, List.set_cons_succ]
  refine wpAnyH_take (i := 9) (oi := ⟨some 51, _, _, _, _, _⟩) (v := .bool true) rfl (by kernel_rfl) (by kernel_rfl) (by kernel_rfl) (fun _ _ _ h => h) (.inl ⟨by rfl, fun W1 h1 => by go_simp⟩) hW ?_
  try simp only [Act.put, List.setIfInBounds_toArray, List.set_cons_zero, List.set_cons_succ]
  refine wpAnyH_take (i := 10) (oi := ⟨some 52, _, _, _, _, _⟩) (v := .bool true) rfl (by kernel_rfl) (by kernel_rfl) (by kernel_rfl) (fun _ _ _ h => h) (.inl ⟨by rfl, fun W1 h1 => by go_simp⟩) hW ?_
  try simp only [Act.put, List.setIfInBounds_toArray, List.set_cons_zero, List.set_cons_succ]
  refine wpAnyH_take (i := 11) (oi := ⟨some 53, _, _, _, _, _⟩) rfl (by kernel_rfl) (by kernel_rfl) (by kernel_rfl) (fun _ _ _ h => h) (yieldsIf_load_row (by rfl) 59 _ rfl w.heap.size rfl 59 (encE e) (0, 0) _ (fun _ h => blk_below G4.out.1 h) u59 rfl hI) hW ?_
  try simp only [Act.put, List.setIfInBounds_toArray, List.set_cons_zero, List.set_cons_succ]
  refine wpAnyH_take (i := 13) (oi := ⟨some 55, _, _, _, _, _⟩) rfl (by kernel_rfl) (by kernel_rfl) (by kernel_rfl) (fun _ _ _ h => h) (yieldsIf_load_row (by rfl) 59 _ rfl w.heap.size rfl 59 (encE e) (0, 0) _ (fun _ h => blk_below G4.out.1 h) u59 rfl hI) hW ?_
  try simp only [Act.put, List.setIfInBounds_toArray, List.set_cons_zero, List.set_cons_succ]
  refine wpAnyH_ready (rs := [12]) (by kernel_rfl) (by simp) (AllReadyH.cons rfl (fun K1 hK1 => ?_) AllReadyH.nil)
  go_simp
  refine (rightE_calls e HK.out _).mono ?_
  rintro r W1_ ⟨rfl, hb1_⟩
  rw [← HQ2.out]
  have hW1 := below_then hW hW.size hb1_
  refine hK1.out _ _ hW1 (fun hW => ?_)
  try simp only [Act.put, List.setIfInBounds_toArray, List.set_cons_zero, List.set_cons_succ]
  refine wpAnyH_ready (rs := [14]) (by kernel_rfl) (by simp) (AllReadyH.cons rfl (fun K2 hK2 => ?_) AllReadyH.nil)
  go_simp
  refine (rrightE_calls e HK.out _).mono ?_
  rintro r W2_ ⟨rfl, hb2_⟩
  rw [← HQ2.out]
  have hW2 := below_then hW hW.size hb2_
  refine hK2.out _ _ hW2 (fun hW => ?_)
  try simp only [Act.put, List.setIfInBounds_toArray, List.set_cons_zero, List.set_cons_succ]
  refine wpAnyH_take (i := 15) (oi := ⟨some 57, _, _, _, _, _⟩) (v := .bool true) rfl (by kernel_rfl) (by kernel_rfl) (by kernel_rfl) (fun _ _ _ h => h) (.inl ⟨by rfl, fun W1 h1 => by go_simp⟩) hW ?_
  try simp only [Act.put, List.setIfInBounds_toArray, List.set_cons_zero, List.set_cons_succ]
  refine wpAnyH_take (i := 16) (oi := ⟨some 58, _, _, _, _, _⟩) (v := .bool true) rfl (by kernel_rfl) (by kernel_rfl) (by kernel_rfl) (fun _ _ _ h => h) (.inl ⟨by rfl, fun W1 h1 => by go_simp⟩) hW ?_
  try simp only [Act.put, List.setIfInBounds_toArray, List.set_cons_zero, List.set_cons_succ]
  refine wpAnyH_take (i := 17) (oi := ⟨some 59, _, _, _, _, _⟩) (v := .bool true) rfl (by kernel_rfl) (by kernel_rfl) (by kernel_rfl) (fun _ _ _ h => h) (.inl ⟨by rfl, fun W1 h1 => by go_simp⟩) hW ?_
  try simp only [Act.put, List.setIfInBounds_toArray, List.set_cons_zero, List.set_cons_succ]
  refine wpAnyH_take (i := 18) (oi := ⟨some 60, _, _, _, _, _⟩) rfl (by kernel_rfl) (by kernel_rfl) (by kernel_rfl) (fun _ _ _ h => h) (yieldsIf_load_row (by rfl) 59 _ rfl g3 rfl 59 (encE f) (0, 0) _ (fun _ h => blk_below G4.out.2.1 h) u59 rfl hI3) hW ?_
  try simp only [Act.put, List.setIfInBounds_toArray, List.set_cons_zero, List.set_cons_succ]
  refine wpAnyH_take (i := 19) (oi := ⟨some 61, _, _, _, _, _⟩) rfl (by kernel_rfl) (by kernel_rfl) (by kernel_rfl) (fun _ _ _ h => h) (yieldsIf_load_row (by rfl) 62 _ rfl g4 rfl 62 (encE f) (0, 0) _ (fun _ h => blk_below G4.out.2.2 h) u62 rfl hI4) hW ?_
  try simp only [Act.put, List.setIfInBounds_toArray, List.set_cons_zero, List.set_cons_succ]
  refine wpAnyH_take (i := 20) (oi := ⟨some 62, _, _, _, _, _⟩) (v := .bool true) rfl (by kernel_rfl) (by kernel_rfl) (by kernel_rfl) (fun _ _ _ h => h) (.inl ⟨by rfl, fun W1 h1 => by (have x1 := hql W1); go_simp⟩) hW ?_
  try simp only [Act.put, List.setIfInBounds_toArray, List.set_cons_zero, List.set_cons_succ]
  refine wpAnyH_take (i := 21) (oi := ⟨some 63, _, _, _, _, _⟩) (v := .bool true) rfl (by kernel_rfl) (by kernel_rfl) (by kernel_rfl) (fun _ _ _ h => h) (.inl ⟨by rfl, fun W1 h1 => by go_simp⟩) hW ?_
  try simp only [Act.put, List.setIfInBounds_toArray, List.set_cons_zero, List.set_cons_succ]
  refine wpAnyH_take (i := 22) (oi := ⟨some 64, _, _, _, _, _⟩) (v := .bool true) rfl (by kernel_rfl) (by kernel_rfl) (by kernel_rfl) (fun _ _ _ h => h) (.inl ⟨by rfl, fun W1 h1 => by go_simp⟩) hW ?_
  try simp only [Act.put, List.setIfInBounds_toArray, List.set_cons_zero, List.set_cons_succ]
  refine wpAnyH_take (i := 23) (oi := ⟨some 65, _, _, _, _, _⟩) (v := .int .i64 er) rfl (by kernel_rfl) (by kernel_rfl) (by kernel_rfl) (fun _ _ _ h => h) (.inl ⟨by rfl, fun W1 h1 => by go_simp⟩) hW ?_
  try simp only [Act.put, List.setIfInBounds_toArray, List.set_cons_zero, List.set_cons_succ]
  refine wpAnyH_take (i := 24) (oi := ⟨some 66, _, _, _, _, _⟩) (v := .int .i64 er) rfl (by kernel_rfl) (by kernel_rfl) (by kernel_rfl) (fun _ _ _ h => h) (.inl ⟨by rfl, fun W1 h1 => by go_simp⟩) hW ?_
  try simp only [Act.put, List.setIfInBounds_toArray, List.set_cons_zero, List.set_cons_succ]
  refine wpAnyH_take (i := 25) (oi := ⟨some 67, _, _, _, _, _⟩) (v := .bool true) rfl (by kernel_rfl) (by kernel_rfl) (by kernel_rfl) (fun _ _ _ h => h) (.inl ⟨by rfl, fun W1 h1 => by go_simp⟩) hW ?_
  try simp only [Act.put, List.setIfInBounds_toArray, List.set_cons_zero, List.set_cons_succ]
  refine wpAnyH_take (i := 26) (oi := ⟨some 68, _, _, _, _, _⟩) (v := .bool true) rfl (by kernel_rfl) (by kernel_rfl) (by kernel_rfl) (fun _ _ _ h => h) (.inl ⟨by rfl, fun W1 h1 => by go_simp⟩) hW ?_
  try simp only [Act.put, List.setIfInBounds_toArray, List.set_cons_zero, List.set_cons_succ]
  refine wpAnyH_take (i := 27) (oi := ⟨some 69, _, _, _, _, _⟩) (v := .bool true) rfl (by kernel_rfl) (by kernel_rfl) (by kernel_rfl) (fun _ _ _ h => h) (.inl ⟨by rfl, fun W1 h1 => by go_simp⟩) hW ?_
  try simp only [Act.put, List.setIfInBounds_toArray, List.set_cons_zero, List.set_cons_succ]
  refine wpAnyH_take (i := 28) (oi := ⟨some 70, _, _, _, _, _⟩) (v := .agg A59) rfl (by kernel_rfl) (by kernel_rfl) (by kernel_rfl) (fun _ _ _ h => h) (.inl ⟨by rfl, fun W1 h1 => by (go_simp; kernel_rfl)⟩) hW ?_
  try simp only [Act.put, List.setIfInBounds_toArray, List.set_cons_zero, List.set_cons_succ]
  refine wpAnyH_ready (rs := [29]) (by kernel_rfl) (by simp) (AllReadyH.cons rfl (fun K3 hK3 => ?_) AllReadyH.nil)
  go_simp
  refine (a_calls _).mono ?_
  rintro r W3_ ⟨rfl, hb3_⟩
  have hW3 := below_then hW hW.size hb3_
  refine hK3.out _ _ hW3 (fun hW => ?_)
  try simp only [Act.put, List.setIfInBounds_toArray, List.set_cons_zero, List.set_cons_succ]
  refine wpAnyH_take (i := 30) (oi := ⟨some 72, _, _, _, _, _⟩) (v := .bool true) rfl (by kernel_rfl) (by kernel_rfl) (by kernel_rfl) (fun _ _ _ h => h) (.inl ⟨by rfl, fun W1 h1 => by go_simp⟩) hW ?_
  try simp only [Act.put, List.setIfInBounds_toArray, List.set_cons_zero, List.set_cons_succ]
  refine wpAnyH_take (i := 31) (oi := ⟨some 4, _, _, _, _, _⟩) (v := .bool true) rfl (by kernel_rfl) (by kernel_rfl) (by kernel_rfl) (fun _ _ _ h => h) (.inl ⟨by rfl, fun W1 h1 => by go_simp⟩) hW ?_
  try simp only [Act.put, List.setIfInBounds_toArray, List.set_cons_zero, List.set_cons_succ]
  refine wpAnyH_done (by kernel_rfl) ?_ _
  have HW := Aside0.mk (below_then B4.out B4.out.size hW)
  clear hK1 K1 hK2 K2 hK3 K3 hW1 hW2 hW3 hW hb1_ hb2_ hb3_ hql hI hI3 hI4
  go_wp2
  rw [HP.out]
  exact ⟨rfl, HW.out⟩
end Go.Proofs.Ytfefpbnhpncmlaa.EntK
