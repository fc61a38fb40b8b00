import Derived.Test.YtfefpbnhpncmlaaBaseT
namespace Go.Proofs.Ytfefpbnhpncmlaa.BaseD
open Go.Proofs.Ytfefpbnhpncmlaa.B8 Go.Proofs.Ytfefpbnhpncmlaa.BaseQ Go.Proofs.Ytfefpbnhpncmlaa.BaseV Go.Proofs.Ytfefpbnhpncmlaa.BaseT Go.Proofs.Ytfefpbnhpncmlaa.BaseE Go.RowKit Go.Proofs.YtfefpbnhpncmlaaW.PrintWords Go.Proofs.YtfefpbnhpncmlaaW.PrintLast Go.Proofs.YtfefpbnhpncmlaaW.PrintMore
set_option linter.unusedVariables false

theorem valI_lt (c : Int) (h0 : 0 ≤ c) (h1 : c < 256) : valI c < 64 := by
  unfold valI
  repeat' split
  all_goals omega
theorem val61 : valI 61 = -1 := by decide

/-- Four signs' bytes. -/
def trioL (a b c d : Int) : Option (List Int) :=
  if valI a < 0 then none else if valI b < 0 then none else
  if d = 61 then
    if c = 61 then (if (valI a * 64 + valI b) * 64 * 64 / 256 % 256 = 0 ∧ (valI a * 64 + valI b) * 64 * 64 % 256 = 0 then some [(valI a * 64 + valI b) * 64 * 64 / 65536] else none)
    else if valI c < 0 then none else (if ((valI a * 64 + valI b) * 64 + valI c) * 64 % 256 = 0 then some [((valI a * 64 + valI b) * 64 + valI c) * 64 / 65536, ((valI a * 64 + valI b) * 64 + valI c) * 64 / 256 % 256] else none)
  else if valI c < 0 then none else if valI d < 0 then none else
    some [(((valI a * 64 + valI b) * 64 + valI c) * 64 + valI d) / 65536, (((valI a * 64 + valI b) * 64 + valI c) * 64 + valI d) / 256 % 256, (((valI a * 64 + valI b) * 64 + valI c) * 64 + valI d) % 256]

theorem none_end {w w' : World} {e : Ending} {o : Option (List Int)} (ho : o = none) (h : e = .returned (.tuple #[.slice none 0 0, .bool false]) ∧ Below w.heap.size w w') :
    ∃ A c, e = .returned (.tuple #[.slice A (o.getD []).length c, .bool o.isSome]) ∧ R8 w' w.heap.size (.slice A (o.getD []).length c) (o.getD []) ∧ Below w.heap.size w w' := by
  subst ho
  exact ⟨none, 0, h.1, Kd.R_nil _ _ _ _ _, h.2⟩
theorem some_end {w w' : World} {e : Ending} {o : Option (List Int)} {g g' : List Int} (ho : o = some g) (hg : g' = g) (h : ∃ v, e = .returned (.tuple #[v, .bool true]) ∧ R8 w' w.heap.size v g' ∧ Below w.heap.size w w') :
    ∃ A c, e = .returned (.tuple #[.slice A (o.getD []).length c, .bool o.isSome]) ∧ R8 w' w.heap.size (.slice A (o.getD []).length c) (o.getD []) ∧ Below w.heap.size w w' := by
  subst ho
  subst hg
  obtain ⟨v, he, hr, hb⟩ := h
  obtain ⟨A, c, hv⟩ := Kd.R_slice hr
  subst hv
  exact ⟨A, c, he, hr, hb⟩

theorem trio_calls (s : ByteArray) (hs : 3 < s.size) (w : World) (c0 c1 c2 c3 : Nat) (q0 : (s[0]'(by omega)).toNat = c0) (q1 : (s[1]'(by omega)).toNat = c1) (q2 : (s[2]'(by omega)).toNat = c2) (q3 : (s[3]'(by omega)).toNat = c3) :
    Calls Try.prog 55 #[.string s] w fun e w' => ∃ A c, e = .returned (.tuple #[.slice A ((trioL c0 c1 c2 c3).getD []).length c, .bool (trioL c0 c1 c2 c3).isSome]) ∧ R8 w' w.heap.size (.slice A ((trioL c0 c1 c2 c3).getD []).length c) ((trioL c0 c1 c2 c3).getD []) ∧ Below w.heap.size w w' := by
  have d0 : c0 < 256 := by rw [← q0]; exact UInt8.toNat_lt _
  have d1 : c1 < 256 := by rw [← q1]; exact UInt8.toNat_lt _
  have d2 : c2 < 256 := by rw [← q2]; exact UInt8.toNat_lt _
  have d3 : c3 < 256 := by rw [← q3]; exact UInt8.toNat_lt _
  have v0 := fun W => value_calls (c0 : Int) (by omega) (by omega) W
  have v1 := fun W => value_calls (c1 : Int) (by omega) (by omega) W
  have v2 := fun W => value_calls (c2 : Int) (by omega) (by omega) W
  have v3 := fun W => value_calls (c3 : Int) (by omega) (by omega) W
  have u0 := valI_lt c0 (by omega) (by omega)
  have u1 := valI_lt c1 (by omega) (by omega)
  have u2 := valI_lt c2 (by omega) (by omega)
  have u3 := valI_lt c3 (by omega) (by omega)
  have ne61 : ∀ c : Nat, 0 ≤ valI c → ((c : Int) == 61) = false := by
    intro c hc
    simp only [beq_eq_false_iff_ne]
    intro e
    rw [e, val61] at hc
    omega
  by_cases a0 : valI c0 < 0
  · have ht : trioL c0 c1 c2 c3 = none := by unfold trioL; rw [if_pos a0]
    by_cases e0 : c0 = 61
    · subst e0
      exact (tA1 s hs c1 c2 c3 q0 q1 q2 q3 _ w v0 a0).mono fun e w' h => none_end ht h
    · exact (tA2 s hs c0 c1 c2 c3 q0 q1 q2 q3 _ w v0 a0 (by simp; omega)).mono fun e w' h => none_end ht h
  by_cases a1 : valI c1 < 0
  · have ht : trioL c0 c1 c2 c3 = none := by unfold trioL; rw [if_neg a0, if_pos a1]
    by_cases e1 : c1 = 61
    · subst e1
      exact (tB1 s hs c0 c2 c3 q0 q1 q2 q3 _ _ w v0 v1 (by omega) u0 a1 (ne61 c0 (by omega))).mono fun e w' h => none_end ht h
    · exact (tB2 s hs c0 c1 c2 c3 q0 q1 q2 q3 _ _ w v0 v1 (by omega) u0 a1 (ne61 c0 (by omega)) (by simp; omega)).mono fun e w' h => none_end ht h
  have p0 := ne61 c0 (by omega)
  have p1 := ne61 c1 (by omega)
  by_cases e3 : c3 = 61
  · subst e3
    by_cases e2 : c2 = 61
    · subst e2
      have ht : trioL c0 c1 (61 : Nat) (61 : Nat) = if (valI c0 * 64 + valI c1) * 64 * 64 / 256 % 256 = 0 ∧ (valI c0 * 64 + valI c1) * 64 * 64 % 256 = 0 then some [(valI c0 * 64 + valI c1) * 64 * 64 / 65536] else none := by
        unfold trioL; rw [if_neg a0, if_neg a1, if_pos (by decide), if_pos (by decide)]
      by_cases t1 : (valI c0 * 64 + valI c1) * 64 * 64 / 256 % 256 = 0
      · by_cases t2 : (valI c0 * 64 + valI c1) * 64 * 64 % 256 = 0
        · exact (tC1 s hs c0 c1 q0 q1 q2 q3 _ _ _ _ w v0 v1 v2 v3 (by omega) u0 (by omega) u1 p0 p1 (by simpa using t1) (by simpa using t1) (by simpa using t2) (by simpa using t2)).mono fun e w' h => some_end (ht.trans (if_pos ⟨t1, t2⟩)) rfl h
        · exact (tC1b s hs c0 c1 q0 q1 q2 q3 _ _ _ _ w v0 v1 v2 v3 (by omega) u0 (by omega) u1 p0 p1 (by simpa using t1) (by simpa using t1) (by simpa using t2) (by simpa using t2)).mono fun e w' h => none_end (ht.trans (if_neg (fun h => t2 h.2))) h
      · exact (tC1a s hs c0 c1 q0 q1 q2 q3 _ _ _ _ w v0 v1 v2 v3 (by omega) u0 (by omega) u1 p0 p1 (by simpa using t1) (by simpa using t1)).mono fun e w' h => none_end (ht.trans (if_neg (fun h => t1 h.1))) h
    · have n2 : ¬ ((c2 : Int) = 61) := by omega
      have p2 : ((c2 : Int) == 61) = false := by simpa using n2
      by_cases a2 : valI c2 < 0
      · have ht : trioL c0 c1 c2 (61 : Nat) = none := by unfold trioL; rw [if_neg a0, if_neg a1, if_pos (by decide), if_neg n2, if_pos a2]
        exact (tP4 s hs c0 c1 c2 61 q0 q1 q2 q3 _ _ _ w v0 v1 v2 (by omega) u0 (by omega) u1 a2 p0 p1 p2).mono fun e w' h => none_end ht h
      · have ht : trioL c0 c1 c2 (61 : Nat) = if ((valI c0 * 64 + valI c1) * 64 + valI c2) * 64 % 256 = 0 then some [((valI c0 * 64 + valI c1) * 64 + valI c2) * 64 / 65536, ((valI c0 * 64 + valI c1) * 64 + valI c2) * 64 / 256 % 256] else none := by
          unfold trioL; rw [if_neg a0, if_neg a1, if_pos (by decide), if_neg n2, if_neg a2]
        by_cases t2 : ((valI c0 * 64 + valI c1) * 64 + valI c2) * 64 % 256 = 0
        · exact (tC2 s hs c0 c1 c2 q0 q1 q2 q3 _ _ _ _ w v0 v1 v2 v3 (by omega) u0 (by omega) u1 (by omega) u2 p0 p1 p2 (by simpa using t2) (by simpa using t2)).mono fun e w' h => some_end (ht.trans (if_pos t2)) rfl h
        · exact (tC2a s hs c0 c1 c2 q0 q1 q2 q3 _ _ _ _ w v0 v1 v2 v3 (by omega) u0 (by omega) u1 (by omega) u2 p0 p1 p2 (by simpa using t2) (by simpa using t2)).mono fun e w' h => none_end (ht.trans (if_neg t2)) h
  · have n3 : ¬ ((c3 : Int) = 61) := by omega
    have p3 : ((c3 : Int) == 61) = false := by simpa using n3
    by_cases a2 : valI c2 < 0
    · have ht : trioL c0 c1 c2 c3 = none := by unfold trioL; rw [if_neg a0, if_neg a1, if_neg n3, if_pos a2]
      by_cases e2 : c2 = 61
      · subst e2
        exact (tP2 s hs c0 c1 c3 q0 q1 q2 q3 _ _ _ w v0 v1 v2 (by omega) u0 (by omega) u1 a2 p0 p1 p3).mono fun e w' h => none_end ht h
      · exact (tP4 s hs c0 c1 c2 c3 q0 q1 q2 q3 _ _ _ w v0 v1 v2 (by omega) u0 (by omega) u1 a2 p0 p1 (by simp; omega)).mono fun e w' h => none_end ht h
    have p2 := ne61 c2 (by omega)
    by_cases a3 : valI c3 < 0
    · have ht : trioL c0 c1 c2 c3 = none := by unfold trioL; rw [if_neg a0, if_neg a1, if_neg n3, if_neg a2, if_pos a3]
      exact (tP6 s hs c0 c1 c2 c3 q0 q1 q2 q3 _ _ _ _ w v0 v1 v2 v3 (by omega) u0 (by omega) u1 (by omega) u2 a3 p0 p1 p2 p3).mono fun e w' h => none_end ht h
    · have ht : trioL c0 c1 c2 c3 = some [(((valI c0 * 64 + valI c1) * 64 + valI c2) * 64 + valI c3) / 65536, (((valI c0 * 64 + valI c1) * 64 + valI c2) * 64 + valI c3) / 256 % 256, (((valI c0 * 64 + valI c1) * 64 + valI c2) * 64 + valI c3) % 256] := by unfold trioL; rw [if_neg a0, if_neg a1, if_neg n3, if_neg a2, if_neg a3]
      exact (tP7 s hs c0 c1 c2 c3 q0 q1 q2 q3 _ _ _ _ w v0 v1 v2 v3 (by omega) u0 (by omega) u1 (by omega) u2 (by omega) u3 p0 p1 p2 p3).mono fun e w' h => some_end ht rfl h

/-- The bytes of signs, or none. -/
def decL : List Int → Option (List Int)
  | [] => some []
  | a :: b :: c :: d :: r =>
    match trioL a b c d with
    | none => none
    | some g => if g.length < 3 ∧ r ≠ [] then none else (decL r).map (g ++ ·)
  | _ => none

theorem bytesOf_extract (s : ByteArray) (a : Nat) : bytesOf (s.extract a s.size) = (bytesOf s).drop a := by
  obtain ⟨⟨l⟩⟩ := s
  simp [bytesOf, ByteArray.extract_mk, ByteArray.size]
  rw [List.take_of_length_le (by simp)]

theorem bytes4 (t : ByteArray) (h : 3 < t.size) : ∃ r, bytesOf t = ((t[0]'(by omega)).toNat : Int) :: ((t[1]'(by omega)).toNat : Int) :: ((t[2]'(by omega)).toNat : Int) :: ((t[3]'(by omega)).toNat : Int) :: r ∧ bytesOf (t.extract 4 t.size) = r ∧ (r = [] ↔ t.size = 4) := by
  obtain ⟨⟨l⟩⟩ := t
  match l, h with
  | a :: b :: c :: d :: r, _ =>
    refine ⟨r.map fun b => (b.toNat : Int), rfl, ?_, ?_⟩
    · rw [bytesOf_extract]
      rfl
    · simp [ByteArray.size]
  | [], h => exact absurd h (by simp [ByteArray.size])
  | [_], h => exact absurd h (by simp [ByteArray.size])
  | [_, _], h => exact absurd h (by simp [ByteArray.size])
  | [_, _, _], h => exact absurd h (by simp [ByteArray.size])

theorem trioL_len {a b c d : Int} {g : List Int} (h : trioL a b c d = some g) : 1 ≤ g.length ∧ g.length ≤ 3 := by
  unfold trioL at h
  repeat' split at h
  all_goals first | (cases h; done) | (cases h; simp)

theorem decL_len (l : List Int) : ∀ x, decL l = some x → x.length ≤ l.length := by
  induction l using decL.induct with
  | case1 => intro x h; cases h; simp
  | case2 a b c d r ht => intro x h; rw [decL] at h; simp [ht] at h
  | case3 a b c d r g ht hg => intro x h; rw [decL] at h; simp only [ht] at h; rw [if_pos hg] at h; cases h
  | case4 a b c d r g ht hg ih =>
    intro x h
    rw [decL] at h
    simp only [ht] at h
    rw [if_neg hg] at h
    obtain ⟨y, hy, rfl⟩ := Option.map_eq_some_iff.1 h
    have := ih y hy
    have := trioL_len ht
    simp
    omega
  | case5 l h1 h2 =>
    intro x h
    match l, h1, h2, h with
    | [], h1, _, _ => exact absurd rfl h1
    | [_], _, _, h => simp [decL] at h
    | [_, _], _, _, h => simp [decL] at h
    | [_, _, _], _, _, h => simp [decL] at h
    | _ :: _ :: _ :: _ :: _, _, h2, _ => exact absurd rfl (h2 _ _ _ _ _)

theorem decL_mod (l : List Int) : l.length % 4 ≠ 0 → decL l = none := by
  induction l using decL.induct with
  | case1 => intro h; simp at h
  | case2 a b c d r ht => intro h; rw [decL]; simp [ht]
  | case3 a b c d r g ht hg => intro h; rw [decL]; simp only [ht]; rw [if_pos hg]
  | case4 a b c d r g ht hg ih =>
    intro h
    rw [decL]
    simp only [ht]
    rw [if_neg hg, ih (by simp at h; omega)]
    rfl
  | case5 l h1 h2 =>
    intro h
    match l, h1, h2 with
    | [], h1, _ => exact absurd rfl h1
    | [_], _, _ => rfl
    | [_, _], _, _ => rfl
    | [_, _, _], _, _ => rfl
    | _ :: _ :: _ :: _ :: _, _, h2 => exact absurd rfl (h2 _ _ _ _ _)

set_option maxRecDepth 100000 in
theorem dec_calls (s : ByteArray) (hm : s.size ≤ 100000) (w : World) :
    Calls Try.prog 20 #[.string s] w fun e w' => ∃ v, e = .returned (.tuple #[v, .bool (decL (bytesOf s)).isSome]) ∧ R8 w' w.heap.size v ((decL (bytesOf s)).getD []) ∧ Below w.heap.size w w' := by
  by_cases hmod : s.size % 4 = 0
  · have hmb : (((s.size % 4 : Nat) : Int) == 0) = true := by simpa using (by omega : ((s.size % 4 : Nat) : Int) = 0)
    have hmn : ((s.size : Int) % 4 != 0) = false := by simpa using (by omega : (s.size : Int) % 4 = 0)
    go_enter Try.func20, Try.ntmps20
    go_wp2
    go_loopg [0, 4] s.size (fun kq v0 v4 w' => ∃ (t : ByteArray) (out : List Int), v0 = .string t ∧ t.size ≤ kq ∧ t.size % 4 = 0 ∧ t.size + out.length ≤ s.size ∧ Aside0 (decL (bytesOf s) = (decL (bytesOf t)).map (out ++ ·)) ∧ Aside0 (R8 w' w.heap.size v4 out) ∧ Aside0 (Below w.heap.size w w'))
    case atStart => exact ⟨s, [], rfl, Nat.le_refl _, hmod, by simp, ⟨by simp⟩, ⟨Kd.R_nil _ _ _ _ _⟩, ⟨Below.refl _ _⟩⟩
    case round =>
      clear hmn
      obtain ⟨t, out, rfl, htk, ht4, hto, heq, HO, HB⟩ := hrel
      by_cases h0 : t.size = 0
      · have hb : bytesOf t = [] := by rw [← List.length_eq_zero_iff, bytesOf_length]; exact h0
        have he : decL (bytesOf s) = some out := by rw [heq.out, hb]; simp [decL]
        have HE := Aside0.mk he
        have hl : t.data.toList = [] := by rw [← List.length_eq_zero_iff, data_length]; exact h0
        have hem : t.toList.isEmpty = true := by
          rw [ByteArray.toList_eq]; simp [hl]
        clear hb he hl heq
        go_wp2
        go_ret2
        rw [HE.out]
        exact ⟨_, rfl, HO.out, HB.out⟩
      · have h4 : 4 ≤ t.size := by omega
        have h4i : (4 : Int) ≤ (t.size : Int) := by omega
        have hem : t.toList.isEmpty = false := by
          rw [ByteArray.toList_eq, List.isEmpty_eq_false_iff, ← List.length_pos_iff, data_length]
          omega
        obtain ⟨r, hb, hr4, hre⟩ := bytes4 t (by omega)
        have hx : 3 < (t.extract 0 4).size := by simp [ByteArray.size_extract]; omega
        have T := fun W => trio_calls (t.extract 0 4) hx W _ _ _ _ rfl rfl rfl rfl
        simp only [ByteArray.getElem_extract, Nat.zero_add] at T
        rw [hb, decL] at heq
        have hdec : decL (bytesOf (t.extract 4 t.size)) = decL r := by rw [hr4]
        have HRE := Aside0.mk hre
        have HR4 := Aside0.mk hr4
        clear hb hre hr4
        cases ht : trioL ((t[0]'(by omega)).toNat : Int) ((t[1]'(by omega)).toNat : Int) ((t[2]'(by omega)).toNat : Int) ((t[3]'(by omega)).toNat : Int) with
        | none =>
          rw [ht] at T
          simp only [ht, Option.map_none] at heq
          simp only [Option.getD_none, Option.isSome_none, List.length_nil] at T
          clear ht hdec
          go_wp2_with fail
          refine (T _).mono ?_
          rintro e w2 ⟨A, c, rfl, hr2, hb2⟩
          have HB2 := Aside0.mk (HB.out.trans (hb2.mono HB.out.size))
          clear hb2 hr2
          go_wp2
          go_ret2
          rw [heq.out]
          exact ⟨_, rfl, Kd.R_nil _ _ _ _ _, HB2.out⟩
        | some g =>
          have hgl := trioL_len ht
          rw [ht] at T
          simp only [ht] at heq
          simp only [Option.getD_some, Option.isSome_some] at T
          have HDEC := Aside0.mk hdec
          clear ht hdec
          by_cases hl3 : g.length < 3
          · by_cases ht5 : 4 < t.size
            · have heq2 : decL (bytesOf s) = none := by
                rw [heq.out, if_pos ⟨hl3, fun h => by have := HRE.out.1 h; omega⟩]; rfl
              have HE := Aside0.mk heq2
              clear heq2 heq
              have i1 : (g.length : Int) < 3 := by omega
              have i2 : (4 : Int) < (t.size : Int) := by omega
              go_wp2_with fail
              refine (T _).mono ?_
              rintro e w2 ⟨A, c, rfl, hr2, hb2⟩
              have HB2 := Aside0.mk (HB.out.trans (hb2.mono HB.out.size))
              clear hb2 hr2
              go_wp2
              go_ret2
              rw [HE.out]
              exact ⟨_, rfl, Kd.R_nil _ _ _ _ _, HB2.out⟩
            · have heq2 : decL (bytesOf s) = (decL (bytesOf (t.extract 4 t.size))).map ((out ++ g) ++ ·) := by
                rw [heq.out, if_neg (fun h => h.2 (HRE.out.2 (by omega))), HDEC.out]
                cases decL r with
                | none => rfl
                | some y => simp [List.append_assoc]
              have HE := Aside0.mk heq2
              clear heq2 heq
              have i1 : (g.length : Int) < 3 := by omega
              have i2 : ¬ (4 : Int) < (t.size : Int) := by omega
              cases gk with
              | zero => omega
              | succ k1 =>
              go_wp2_with fail
              refine (T _).mono ?_
              rintro e w2 ⟨A, c, rfl, hr2, hb2⟩
              have HB2 := Aside0.mk (HB.out.trans (hb2.mono HB.out.size))
              have HO2 := Aside0.mk (Kd.R_below HO.out hb2)
              have HR2 := Aside0.mk (Kd.R_reads' hr2).2.2
              have hbs : w.heap.size ≤ w2.heap.size := HB2.out.size
              clear hb2 hr2 HO HB T
              go_wp2_with (at_builtin; refine appRow (w0 := w) w.heap.size rfl (.tmp 33) (.tmp 34) rfl _ out g A g.length c rfl rfl HO2.out HR2.out HB2.out hbs ?hl ?_; (case hl => omega); intro v1 w1 ho hb hg; have HO3 := Aside0.mk ho; have HB3 := Aside0.mk hb; clear ho hb hg)
              go_roundg k1
              case measure => omega
              case rel =>
                have hsz : (t.extract 4 t.size).size = t.size - 4 := by simp [ByteArray.size_extract]
                exact ⟨t.extract 4 t.size, out ++ g, rfl, by omega, by omega, by rw [List.length_append]; omega, HE, HO3, HB3⟩
          · have heq2 : decL (bytesOf s) = (decL (bytesOf (t.extract 4 t.size))).map ((out ++ g) ++ ·) := by
              rw [heq.out, if_neg (fun h => hl3 h.1), HDEC.out]
              cases decL r with
              | none => rfl
              | some y => simp [List.append_assoc]
            have HE := Aside0.mk heq2
            clear heq2 heq
            have i1 : ¬ (g.length : Int) < 3 := by omega
            cases gk with
            | zero => omega
            | succ k1 =>
            go_wp2_with fail
            refine (T _).mono ?_
            rintro e w2 ⟨A, c, rfl, hr2, hb2⟩
            have HB2 := Aside0.mk (HB.out.trans (hb2.mono HB.out.size))
            have HO2 := Aside0.mk (Kd.R_below HO.out hb2)
            have HR2 := Aside0.mk (Kd.R_reads' hr2).2.2
            have hbs : w.heap.size ≤ w2.heap.size := HB2.out.size
            clear hb2 hr2 HO HB T
            go_wp2_with (at_builtin; refine appRow (w0 := w) w.heap.size rfl (.tmp 33) (.tmp 34) rfl _ out g A g.length c rfl rfl HO2.out HR2.out HB2.out hbs ?hl ?_; (case hl => omega); intro v1 w1 ho hb hg; have HO3 := Aside0.mk ho; have HB3 := Aside0.mk hb; clear ho hb hg)
            go_roundg k1
            case measure => omega
            case rel =>
              have hsz : (t.extract 4 t.size).size = t.size - 4 := by simp [ByteArray.size_extract]
              exact ⟨t.extract 4 t.size, out ++ g, rfl, by omega, by omega, by rw [List.length_append]; omega, HE, HO3, HB3⟩
  · have hd := decL_mod (bytesOf s) (by rw [bytesOf_length]; exact hmod)
    have HD := Aside0.mk hd
    clear hd
    have hmn : ((s.size : Int) % 4 != 0) = true := by simpa using (by omega : ¬ (s.size : Int) % 4 = 0)
    go_enter Try.func20, Try.ntmps20
    go_wp2
    go_ret2
    rw [HD.out]
    exact ⟨_, rfl, Kd.R_nil _ _ _ _ _, Below.refl _ _⟩
end Go.Proofs.Ytfefpbnhpncmlaa.BaseD
