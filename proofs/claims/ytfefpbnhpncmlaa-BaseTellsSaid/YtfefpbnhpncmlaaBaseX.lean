import Derived.Test.YtfefpbnhpncmlaaBaseW
namespace Go.Proofs.Ytfefpbnhpncmlaa.BaseX
open Go.Proofs.Ytfefpbnhpncmlaa.B8 Go.Proofs.Ytfefpbnhpncmlaa.BaseQ Go.Proofs.Ytfefpbnhpncmlaa.BaseV Go.Proofs.Ytfefpbnhpncmlaa.BaseE Go.Proofs.Ytfefpbnhpncmlaa.BaseD Go.Proofs.Ytfefpbnhpncmlaa.BaseL Go.Proofs.Ytfefpbnhpncmlaa.BaseR Go.Proofs.Ytfefpbnhpncmlaa.BaseS Go.Proofs.Ytfefpbnhpncmlaa.BaseW Go.Proofs.Ytfefpbnhpncmlaa.BaseBackW Go.Proofs.Ytfefpbnhpncmlaa.BaseOneW Go.RowKit Go.Proofs.YtfefpbnhpncmlaaW.PrintWords Go.Proofs.YtfefpbnhpncmlaaW.PrintLast Go.Proofs.YtfefpbnhpncmlaaW.PrintMore
set_option linter.unusedVariables false

theorem str_ne (xs : List Int) (s : ByteArray) (hb : Bytes xs) (h : ¬ xs = bytesOf s) : ((strOfNums xs).toList == s.toList) = false := by
  simp only [beq_eq_false_iff_ne]
  intro e
  apply h
  rw [← bytes_str xs hb]
  rw [ByteArray.toList_eq, ByteArray.toList_eq] at e
  unfold bytesOf
  rw [e]

theorem byte_get (s : ByteArray) (i : Nat) (h : i < s.size) : ((s[i]'h).toNat : Int) = (bytesOf s).getD i 0 := by
  obtain ⟨⟨l⟩⟩ := s
  have h' : i < l.length := h
  simp only [bytesOf, List.getD, List.getElem?_map]
  rw [List.getElem?_eq_getElem (by simpa using h')]
  rfl

theorem renc_calls' (A : Option Addr) (c n : Nat) (l : List Int) (w : World) (hr : C8 w A n l) (hc : n ≤ c) (hb : Bytes l) (hm : n ≤ 10000) :
    Calls Try.prog 23 #[.slice A n c] w fun e w' => e = .returned (.string (strOfNums (encL l))) ∧ Below w.heap.size w w' := by
  have hl := hr.1
  subst hl
  exact renc_calls A c l w hr hc hb hm

set_option maxRecDepth 100000 in
set_option maxHeartbeats 4000000 in
theorem rdec_calls (s : ByteArray) (hm : s.size ≤ 8000) (w : World) :
    Calls Try.prog 21 #[.string s] w fun e w' => ∃ v, e = .returned (.tuple #[v, .bool (refL (bytesOf s)).isSome]) ∧ R8 w' w.heap.size v ((refL (bytesOf s)).getD []) ∧ Below w.heap.size w w' := by
  go_enter Try.func21, Try.ntmps21
  go_wp2
  go_loopg [4, 5] s.size (fun kq v4 v5 w' => ∃ (i : Nat) (out : List Int), v5 = .int .i64 i ∧ s.size ≤ i + kq ∧ i ≤ s.size ∧ out.length ≤ s.size ∧ Aside0 (out ++ rawL ((bytesOf s).drop i) = rawL (bytesOf s)) ∧ Aside0 (R8 w' w.heap.size v4 out) ∧ Aside0 (Below w.heap.size w w'))
  case atStart => exact ⟨0, [], rfl, by omega, by omega, by simp, ⟨rfl⟩, ⟨Kd.R_nil _ _ _ _ _⟩, ⟨Below.refl _ _⟩⟩
  case round =>
    obtain ⟨i, out, rfl, hik, hil, hout, heq, HO, HB⟩ := hrel
    by_cases hlt : i + 3 < s.size
    · have hlt' : (i : Int) + 3 < (s.size : Int) := by omega
      cases gk with
      | zero => omega
      | succ k1 =>
      have hlen : 4 ≤ ((bytesOf s).drop i).length := by rw [List.length_drop, bytesOf_length]; omega
      have hby : Bytes ((bytesOf s).drop i) := (bytes_bytesOf s).drop i
      have hst : (out ++ [nk ((bytesOf s).drop i) 4 / 65536, nk ((bytesOf s).drop i) 4 / 256 % 256, nk ((bytesOf s).drop i) 4 % 256]) ++ rawL ((bytesOf s).drop (i + 4)) = rawL (bytesOf s) := by
        rw [List.append_assoc, ← List.drop_drop, ← rawL_step _ hlen, heq.out]
      have HST := Aside0.mk hst
      clear hst heq
      have HLEN := Aside0.mk hlen
      have HBY := Aside0.mk hby
      clear hlen hby
      have hgd : ∀ k, ((bytesOf s).drop i).getD k 0 = (bytesOf s).getD (i + k) 0 := fun k => by simp [List.getD]
      have HGD := Aside0.mk hgd
      clear hgd
      generalize hLL : (bytesOf s).drop i = L at HST HLEN HBY HGD
      go_wp2
      obtain ⟨wo, hwo⟩ : ∃ wo : World, wo = wr := ⟨_, rfl⟩
      have HWO := Aside0.mk hwo
      clear hwo hLL
      go_loopw [6, 7] (fun v6 v7 w' => ∃ k : Nat, k ≤ 4 ∧ v6 = .int .i64 (nk L k) ∧ v7 = .int .i64 k ∧ Aside0 (wo = w')) (fun _ v _ => 4 - (intOf v).toNat)
      case atStart => exact ⟨0, by omega, rfl, rfl, HWO⟩
      case round =>
        obtain ⟨k, hk, rfl, rfl, hw⟩ := hrel
        by_cases hk4 : k < 4
        · have hk4' : (k : Int) < 4 := by omega
          have hkL : k < L.length := by have := HLEN.out; omega
          have hik2 : i + k < s.size := by omega
          have hik3 : (i : Int) + (k : Int) < (s.size : Int) := by omega
          have hik4 : (0 : Int) ≤ (i : Int) + (k : Int) := by omega
          have e1 : ∀ h : i + k < s.size, ((s[i + k]'h).toNat : Int) = L.getD k 0 := fun h => by rw [HGD.out k]; exact byte_get s (i + k) h
          have bd := nk_bd L HBY.out k (by omega) (by omega)
          obtain ⟨bd1, _, bd3⟩ := bd
          replace bd3 := bd3 (by omega)
          have cb := HBY.out (L.getD k 0) (by simp [List.getD, hkL])
          have hvz := vz_bd (L.getD k 0) cb.1 cb.2
          have V := fun W => rvalue_calls (L.getD k 0) cb.1 cb.2 W
          have hnk : nk L (k + 1) = nk L k * 64 + vz (L.getD k 0) := rfl
          generalize L.getD k 0 = ck at e1 cb hvz V hnk
          by_cases hn : valI ck < 0
          · have hz : vz ck = 0 := by unfold vz; rw [if_pos hn]
            rw [hz, Int.add_zero] at hnk
            have HNK := Aside0.mk hnk
            clear hnk hz hvz
            generalize valI ck = yk at V hn
            go_wp2_with fail
            refine (V _).mono ?_
            rintro e w2 ⟨rfl, rfl⟩
            go_wp2
            go_roundw
            case rel => exact ⟨k + 1, by omega, by rw [HNK.out], by go_num, hw⟩
            case measure => simp [intOf]; omega
          · have hz : vz ck = valI ck := by unfold vz; rw [if_neg hn]
            rw [hz] at hnk hvz
            have HNK := Aside0.mk hnk
            clear hnk hz
            generalize valI ck = yk at V hn hvz HNK
            obtain ⟨hv1, hv2⟩ := hvz
            go_wp2_with fail
            refine (V _).mono ?_
            rintro e w2 ⟨rfl, rfl⟩
            go_wp2
            go_roundw
            case rel => exact ⟨k + 1, by omega, by rw [HNK.out], by go_num, hw⟩
            case measure => simp [intOf]; omega
        · obtain rfl : k = 4 := by omega
          have bd := nk_bd L HBY.out 4 HLEN.out (by omega)
          obtain ⟨bd1, bd2, _⟩ := bd
          have hwe := hw.out
          subst hwe
          generalize nk L 4 = n at bd1 bd2 HST
          have hol : (out ++ [n / 65536, n / 256 % 256, n % 256]).length ≤ s.size := by
            have h1 := congrArg List.length HST.out
            have h2 := rawL_len (bytesOf s)
            rw [bytesOf_length] at h2
            simp only [List.length_append, List.length_cons, List.length_nil] at h1 h2 ⊢
            omega
          have hC : Aside0 (C8 (wo.alloc (.cells #[.int .u8 (n / 65536), .int .u8 (n / 256 % 256), .int .u8 (n % 256)] 5)) (some ⟨wo.heap.size, 0, none⟩) 3 [n / 65536, n / 256 % 256, n % 256]) := ⟨C8_new wo [n / 65536, n / 256 % 256, n % 256] 5 (by simp)⟩
          have HOL := Aside0.mk hol
          clear hol
          have hwr := HWO.out
          subst hwr
          have hbs : w.heap.size ≤ wo.heap.size := HB.out.size
          go_wp2_with (at_builtin; refine appRow (w0 := w) w.heap.size rfl (.tmp 33) (.tmp 44) rfl _ out [n / 65536, n / 256 % 256, n % 256] (some ⟨wo.heap.size, 0, none⟩) 3 3 rfl rfl ?ho hC.out ?hb ?hs ?hl ?_; (case ho => exact Kd.R_alloc HO.out _); (case hb => exact below_alloc HB.out _); (case hs => simp; omega); (case hl => omega); intro v1 w1 ho hb hg; have HO3 := Aside0.mk ho; have HB3 := Aside0.mk hb; clear ho hb hg)
          go_roundg k1
          case measure => omega
          case rel => exact ⟨i + 4, out ++ [n / 65536, n / 256 % 256, n % 256], by go_num, by omega, by omega, HOL.out, HST, HO3, HB3⟩
    · have hlt' : ¬ (i : Int) + 3 < (s.size : Int) := by omega
      have hraw : out = rawL (bytesOf s) := by
        rw [← heq.out, rawL_short ((bytesOf s).drop i) (by rw [List.length_drop, bytesOf_length]; omega), List.append_nil]
      have hob : Bytes out := by rw [hraw]; exact rawL_bytes _ (bytes_bytesOf s)
      have HRAW := Aside0.mk hraw
      have HOB := Aside0.mk hob
      clear hraw hob heq
      obtain ⟨A, c, hv⟩ := Kd.R_slice HO.out
      subst hv
      have HSB := Aside0.mk (byte_get s)

      have hoc := (Kd.R_reads' HO.out).2.1
      obtain ⟨lo, hlo⟩ : ∃ lo, out.length = lo := ⟨_, rfl⟩
      have HLO := Aside0.mk hlo
      rw [hlo] at hoc hout HO
      simp only [hlo]
      clear hlo
      by_cases c1 : 0 < s.size
      · have c1' : (0 : Int) < (s.size : Int) := by omega
        match lo, hoc, hout, HO, HLO with
        | m + 1, hoc, hout, HO, HLO =>
          have i1 : (0 : Int) ≤ (s.size : Int) - 1 := by omega
          have i1' : (s.size : Int) - 1 < (s.size : Int) := by omega
          have e1 := fun h => HSB.out (s.size - 1) h
          have hcut := cut8_to A (m + 1) c m (by omega) hoc
          generalize hd1 : (bytesOf s).getD (s.size - 1) 0 = d1 at e1
          have HD1 := Aside0.mk hd1
          clear hd1
          by_cases c3 : d1 = 61
          · subst c3
            by_cases c4 : 1 < s.size
            · have c4' : (1 : Int) < (s.size : Int) := by omega
              have e2 := fun h => HSB.out (s.size - 1 - 1) h
              have i3 : (1 : Int) ≤ (s.size : Int) - 1 := by omega
              have i3' : (s.size : Int) - 1 - 1 < (s.size : Int) := by omega
              match m, hoc, hout, HO, HLO, hcut with
              | m2 + 1, hoc, hout, HO, HLO, hcut =>
                have hcut2 := cut8_to A (m2 + 1) c m2 (by omega) (by omega)
                have hcast : ((m2 + 1 : Nat) : Int) = (m2 : Int) + 1 := by omega
                rw [hcast] at hcut
                clear hcast
                generalize hd2 : (bytesOf s).getD (s.size - 1 - 1) 0 = d2 at e2
                have HD2 := Aside0.mk hd2
                clear hd2
                by_cases c6 : d2 = 61
                · subst c6

                  have hst : stripL (bytesOf s) (rawL (bytesOf s)) = out.take (m2) := by
                    rw [← HRAW.out]
                    unfold stripL
                    rw [bytesOf_length, HLO.out]
                    rw [if_pos ⟨c1, by omega, HD1.out⟩, if_pos ⟨c4, by omega, HD2.out⟩, show m2 + 1 + 1 - 2 = m2 from by omega]
                  have href : refL (bytesOf s) = if encL (out.take (m2)) = bytesOf s then some (out.take (m2)) else none := by unfold refL; rw [hst]
                  have HREF := Aside0.mk href
                  have HR2 : Aside0 (R8 wr w.heap.size (.slice A (m2) c) (out.take (m2))) := ⟨Kd.R_take HO.out (by rw [HLO.out]; omega)⟩
                  clear hst href
                  have hC : C8 wr A (m2) (out.take (m2)) := by
                    have := (Kd.R_reads' HR2.out).2.2
                    rwa [show (out.take (m2)).length = m2 from (by rw [List.length_take, HLO.out]; omega)] at this
                  have hlc : m2 ≤ c := by omega
                  have E := renc_calls' A c (m2) (out.take (m2)) wr hC hlc (HOB.out.take _) (by omega)
                  clear hC
                  by_cases heq : encL (out.take (m2)) = bytesOf s
                  · rw [heq, str_bytes] at E
                    have HE := Aside0.mk (HREF.out.trans (if_pos heq))
                    clear heq
                    go_wp2
                    refine wp_loop_rounds 4 ?_
                    rw [rounds_succ]
                    go_wp2_with fail
                    rw [rounds_succ]
                    go_wp2_with fail
                    rw [rounds_succ]
                    go_wp2_with fail
                    refine E.mono ?_
                    rintro e w2 ⟨rfl, hb2⟩
                    go_wp2
                    go_ret2
                    rw [HE.out]
                    exact ⟨_, rfl, Kd.R_below HR2.out hb2, HB.out.trans (hb2.mono HB.out.size)⟩
                  · have hne := str_ne (encL (out.take (m2))) s (encL_bytes _ (HOB.out.take _)) heq
                    have HE := Aside0.mk (HREF.out.trans (if_neg heq))
                    clear heq
                    generalize strOfNums (encL (out.take (m2))) = S2 at E hne
                    go_wp2
                    refine wp_loop_rounds 4 ?_
                    rw [rounds_succ]
                    go_wp2_with fail
                    rw [rounds_succ]
                    go_wp2_with fail
                    rw [rounds_succ]
                    go_wp2_with fail
                    refine E.mono ?_
                    rintro e w2 ⟨rfl, hb2⟩
                    go_wp2
                    go_ret2
                    rw [HE.out]
                    exact ⟨_, rfl, Kd.R_nil _ _ _ _ _, HB.out.trans (hb2.mono HB.out.size)⟩
                · have c6b : (d2 == 61) = false := by simpa using c6
                  have hst : stripL (bytesOf s) (rawL (bytesOf s)) = out.take (m2 + 1) := by
                    rw [← HRAW.out]
                    unfold stripL
                    rw [bytesOf_length, HLO.out]
                    rw [if_pos ⟨c1, by omega, HD1.out⟩, if_neg (fun h => c6 (HD2.out.symm.trans h.2.2)), show m2 + 1 + 1 - 1 = m2 + 1 from by omega]
                  have href : refL (bytesOf s) = if encL (out.take (m2 + 1)) = bytesOf s then some (out.take (m2 + 1)) else none := by unfold refL; rw [hst]
                  have HREF := Aside0.mk href
                  have HR2 : Aside0 (R8 wr w.heap.size (.slice A (m2 + 1) c) (out.take (m2 + 1))) := ⟨Kd.R_take HO.out (by rw [HLO.out]; omega)⟩
                  clear hst href
                  have hC : C8 wr A (m2 + 1) (out.take (m2 + 1)) := by
                    have := (Kd.R_reads' HR2.out).2.2
                    rwa [show (out.take (m2 + 1)).length = m2 + 1 from (by rw [List.length_take, HLO.out]; omega)] at this
                  have hlc : m2 + 1 ≤ c := by omega
                  have E := renc_calls' A c (m2 + 1) (out.take (m2 + 1)) wr hC hlc (HOB.out.take _) (by omega)
                  clear hC
                  by_cases heq : encL (out.take (m2 + 1)) = bytesOf s
                  · rw [heq, str_bytes] at E
                    have HE := Aside0.mk (HREF.out.trans (if_pos heq))
                    clear heq
                    go_wp2
                    refine wp_loop_rounds 4 ?_
                    rw [rounds_succ]
                    go_wp2_with fail
                    rw [rounds_succ]
                    go_wp2_with fail
                    refine E.mono ?_
                    rintro e w2 ⟨rfl, hb2⟩
                    go_wp2
                    go_ret2
                    rw [HE.out]
                    exact ⟨_, rfl, Kd.R_below HR2.out hb2, HB.out.trans (hb2.mono HB.out.size)⟩
                  · have hne := str_ne (encL (out.take (m2 + 1))) s (encL_bytes _ (HOB.out.take _)) heq
                    have HE := Aside0.mk (HREF.out.trans (if_neg heq))
                    clear heq
                    generalize strOfNums (encL (out.take (m2 + 1))) = S2 at E hne
                    go_wp2
                    refine wp_loop_rounds 4 ?_
                    rw [rounds_succ]
                    go_wp2_with fail
                    rw [rounds_succ]
                    go_wp2_with fail
                    refine E.mono ?_
                    rintro e w2 ⟨rfl, hb2⟩
                    go_wp2
                    go_ret2
                    rw [HE.out]
                    exact ⟨_, rfl, Kd.R_nil _ _ _ _ _, HB.out.trans (hb2.mono HB.out.size)⟩
              | 0, hoc, hout, HO, HLO, hcut =>
                have hst : stripL (bytesOf s) (rawL (bytesOf s)) = out.take (0) := by
                  rw [← HRAW.out]
                  unfold stripL
                  rw [bytesOf_length, HLO.out]
                  rw [if_pos ⟨c1, by omega, HD1.out⟩, if_neg (fun h => absurd h.2.1 (by omega))]
                have href : refL (bytesOf s) = if encL (out.take (0)) = bytesOf s then some (out.take (0)) else none := by unfold refL; rw [hst]
                have HREF := Aside0.mk href
                have HR2 : Aside0 (R8 wr w.heap.size (.slice A (0) c) (out.take (0))) := ⟨Kd.R_take HO.out (by rw [HLO.out]; omega)⟩
                clear hst href
                have hC : C8 wr A (0) (out.take (0)) := by
                  have := (Kd.R_reads' HR2.out).2.2
                  rwa [show (out.take (0)).length = 0 from (by rw [List.length_take, HLO.out]; omega)] at this
                have hlc : 0 ≤ c := by omega
                have E := renc_calls' A c (0) (out.take (0)) wr hC hlc (HOB.out.take _) (by omega)
                clear hC
                by_cases heq : encL (out.take (0)) = bytesOf s
                · rw [heq, str_bytes] at E
                  have HE := Aside0.mk (HREF.out.trans (if_pos heq))
                  clear heq
                  go_wp2
                  refine wp_loop_rounds 4 ?_
                  rw [rounds_succ]
                  go_wp2_with fail
                  rw [rounds_succ]
                  go_wp2_with fail
                  refine E.mono ?_
                  rintro e w2 ⟨rfl, hb2⟩
                  go_wp2
                  go_ret2
                  rw [HE.out]
                  exact ⟨_, rfl, Kd.R_below HR2.out hb2, HB.out.trans (hb2.mono HB.out.size)⟩
                · have hne := str_ne (encL (out.take (0))) s (encL_bytes _ (HOB.out.take _)) heq
                  have HE := Aside0.mk (HREF.out.trans (if_neg heq))
                  clear heq
                  generalize strOfNums (encL (out.take (0))) = S2 at E hne
                  go_wp2
                  refine wp_loop_rounds 4 ?_
                  rw [rounds_succ]
                  go_wp2_with fail
                  rw [rounds_succ]
                  go_wp2_with fail
                  refine E.mono ?_
                  rintro e w2 ⟨rfl, hb2⟩
                  go_wp2
                  go_ret2
                  rw [HE.out]
                  exact ⟨_, rfl, Kd.R_nil _ _ _ _ _, HB.out.trans (hb2.mono HB.out.size)⟩
            · have c4' : ¬ (1 : Int) < (s.size : Int) := by omega
              have hst : stripL (bytesOf s) (rawL (bytesOf s)) = out.take (m) := by
                rw [← HRAW.out]
                unfold stripL
                rw [bytesOf_length, HLO.out]
                rw [if_pos ⟨c1, by omega, HD1.out⟩, if_neg (fun h => c4 h.1), show m + 1 - 1 = m from by omega]
              have href : refL (bytesOf s) = if encL (out.take (m)) = bytesOf s then some (out.take (m)) else none := by unfold refL; rw [hst]
              have HREF := Aside0.mk href
              have HR2 : Aside0 (R8 wr w.heap.size (.slice A (m) c) (out.take (m))) := ⟨Kd.R_take HO.out (by rw [HLO.out]; omega)⟩
              clear hst href
              have hC : C8 wr A (m) (out.take (m)) := by
                have := (Kd.R_reads' HR2.out).2.2
                rwa [show (out.take (m)).length = m from (by rw [List.length_take, HLO.out]; omega)] at this
              have hlc : m ≤ c := by omega
              have E := renc_calls' A c (m) (out.take (m)) wr hC hlc (HOB.out.take _) (by omega)
              clear hC
              by_cases heq : encL (out.take (m)) = bytesOf s
              · rw [heq, str_bytes] at E
                have HE := Aside0.mk (HREF.out.trans (if_pos heq))
                clear heq
                go_wp2
                refine wp_loop_rounds 4 ?_
                rw [rounds_succ]
                go_wp2_with fail
                rw [rounds_succ]
                go_wp2_with fail
                refine E.mono ?_
                rintro e w2 ⟨rfl, hb2⟩
                go_wp2
                go_ret2
                rw [HE.out]
                exact ⟨_, rfl, Kd.R_below HR2.out hb2, HB.out.trans (hb2.mono HB.out.size)⟩
              · have hne := str_ne (encL (out.take (m))) s (encL_bytes _ (HOB.out.take _)) heq
                have HE := Aside0.mk (HREF.out.trans (if_neg heq))
                clear heq
                generalize strOfNums (encL (out.take (m))) = S2 at E hne
                go_wp2
                refine wp_loop_rounds 4 ?_
                rw [rounds_succ]
                go_wp2_with fail
                rw [rounds_succ]
                go_wp2_with fail
                refine E.mono ?_
                rintro e w2 ⟨rfl, hb2⟩
                go_wp2
                go_ret2
                rw [HE.out]
                exact ⟨_, rfl, Kd.R_nil _ _ _ _ _, HB.out.trans (hb2.mono HB.out.size)⟩
          · have c3b : (d1 == 61) = false := by simpa using c3
            have hst : stripL (bytesOf s) (rawL (bytesOf s)) = out := by
              rw [← HRAW.out]
              unfold stripL
              rw [bytesOf_length, HLO.out]
              rw [if_neg (fun h => c3 (HD1.out.symm.trans h.2.2))]
            have href : refL (bytesOf s) = if encL (out) = bytesOf s then some (out) else none := by unfold refL; rw [hst]
            have HREF := Aside0.mk href
            have HR2 : Aside0 (R8 wr w.heap.size (.slice A (m + 1) c) (out)) := ⟨HO.out⟩
            clear hst href
            have hC : C8 wr A (m + 1) (out) := by
              have := (Kd.R_reads' HR2.out).2.2
              rwa [show (out).length = m + 1 from HLO.out] at this
            have hlc : m + 1 ≤ c := by omega
            have E := renc_calls' A c (m + 1) (out) wr hC hlc HOB.out (by omega)
            clear hC
            by_cases heq : encL (out) = bytesOf s
            · rw [heq, str_bytes] at E
              have HE := Aside0.mk (HREF.out.trans (if_pos heq))
              clear heq
              go_wp2
              refine wp_loop_rounds 4 ?_
              rw [rounds_succ]
              go_wp2_with fail
              refine E.mono ?_
              rintro e w2 ⟨rfl, hb2⟩
              go_wp2
              go_ret2
              rw [HE.out]
              exact ⟨_, rfl, Kd.R_below HR2.out hb2, HB.out.trans (hb2.mono HB.out.size)⟩
            · have hne := str_ne (encL (out)) s (encL_bytes _ HOB.out) heq
              have HE := Aside0.mk (HREF.out.trans (if_neg heq))
              clear heq
              generalize strOfNums (encL (out)) = S2 at E hne
              go_wp2
              refine wp_loop_rounds 4 ?_
              rw [rounds_succ]
              go_wp2_with fail
              refine E.mono ?_
              rintro e w2 ⟨rfl, hb2⟩
              go_wp2
              go_ret2
              rw [HE.out]
              exact ⟨_, rfl, Kd.R_nil _ _ _ _ _, HB.out.trans (hb2.mono HB.out.size)⟩
        | 0, hoc, hout, HO, HLO =>
          have hst : stripL (bytesOf s) (rawL (bytesOf s)) = out := by
            rw [← HRAW.out]
            unfold stripL
            rw [bytesOf_length, HLO.out]
            rw [if_neg (fun h => absurd h.2.1 (by omega))]
          have href : refL (bytesOf s) = if encL (out) = bytesOf s then some (out) else none := by unfold refL; rw [hst]
          have HREF := Aside0.mk href
          have HR2 : Aside0 (R8 wr w.heap.size (.slice A (0) c) (out)) := ⟨HO.out⟩
          clear hst href
          have hC : C8 wr A (0) (out) := by
            have := (Kd.R_reads' HR2.out).2.2
            rwa [show (out).length = 0 from HLO.out] at this
          have hlc : 0 ≤ c := by omega
          have E := renc_calls' A c (0) (out) wr hC hlc HOB.out (by omega)
          clear hC
          by_cases heq : encL (out) = bytesOf s
          · rw [heq, str_bytes] at E
            have HE := Aside0.mk (HREF.out.trans (if_pos heq))
            clear heq
            go_wp2
            refine wp_loop_rounds 4 ?_
            rw [rounds_succ]
            go_wp2_with fail
            refine E.mono ?_
            rintro e w2 ⟨rfl, hb2⟩
            go_wp2
            go_ret2
            rw [HE.out]
            exact ⟨_, rfl, Kd.R_below HR2.out hb2, HB.out.trans (hb2.mono HB.out.size)⟩
          · have hne := str_ne (encL (out)) s (encL_bytes _ HOB.out) heq
            have HE := Aside0.mk (HREF.out.trans (if_neg heq))
            clear heq
            generalize strOfNums (encL (out)) = S2 at E hne
            go_wp2
            refine wp_loop_rounds 4 ?_
            rw [rounds_succ]
            go_wp2_with fail
            refine E.mono ?_
            rintro e w2 ⟨rfl, hb2⟩
            go_wp2
            go_ret2
            rw [HE.out]
            exact ⟨_, rfl, Kd.R_nil _ _ _ _ _, HB.out.trans (hb2.mono HB.out.size)⟩
      · have c1' : ¬ (0 : Int) < (s.size : Int) := by omega
        have hst : stripL (bytesOf s) (rawL (bytesOf s)) = out := by
          rw [← HRAW.out]
          unfold stripL
          rw [bytesOf_length, HLO.out]
          rw [if_neg (fun h => c1 h.1)]
        have href : refL (bytesOf s) = if encL (out) = bytesOf s then some (out) else none := by unfold refL; rw [hst]
        have HREF := Aside0.mk href
        have HR2 : Aside0 (R8 wr w.heap.size (.slice A (lo) c) (out)) := ⟨HO.out⟩
        clear hst href
        have hC : C8 wr A (lo) (out) := by
          have := (Kd.R_reads' HR2.out).2.2
          rwa [show (out).length = lo from HLO.out] at this
        have hlc : lo ≤ c := by omega
        have E := renc_calls' A c (lo) (out) wr hC hlc HOB.out (by omega)
        clear hC
        by_cases heq : encL (out) = bytesOf s
        · rw [heq, str_bytes] at E
          have HE := Aside0.mk (HREF.out.trans (if_pos heq))
          clear heq
          go_wp2
          refine wp_loop_rounds 4 ?_
          rw [rounds_succ]
          go_wp2_with fail
          refine E.mono ?_
          rintro e w2 ⟨rfl, hb2⟩
          go_wp2
          go_ret2
          rw [HE.out]
          exact ⟨_, rfl, Kd.R_below HR2.out hb2, HB.out.trans (hb2.mono HB.out.size)⟩
        · have hne := str_ne (encL (out)) s (encL_bytes _ HOB.out) heq
          have HE := Aside0.mk (HREF.out.trans (if_neg heq))
          clear heq
          generalize strOfNums (encL (out)) = S2 at E hne
          go_wp2
          refine wp_loop_rounds 4 ?_
          rw [rounds_succ]
          go_wp2_with fail
          refine E.mono ?_
          rintro e w2 ⟨rfl, hb2⟩
          go_wp2
          go_ret2
          rw [HE.out]
          exact ⟨_, rfl, Kd.R_nil _ _ _ _ _, HB.out.trans (hb2.mono HB.out.size)⟩
end Go.Proofs.Ytfefpbnhpncmlaa.BaseX
