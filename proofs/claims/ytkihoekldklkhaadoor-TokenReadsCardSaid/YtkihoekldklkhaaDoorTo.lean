/- The reference: quoted, number. -/
import Derived.Test.YtkihoekldklkhaaDoorTn
namespace Go.Proofs.YtkihoekldklkhaaDoor
open Go.RowKit
set_option linter.unusedVariables false
set_option linter.unusedSimpArgs false

set_option maxRecDepth 100000 in
set_option maxHeartbeats 400000 in
theorem rquoted_any (L : List UInt8) (i : Nat) (w : World) (hi : i < L.length) (hn : L.length ≤ 1000000) : Calls Tryd.prog 40 #[.string ⟨L.toArray⟩, .int .i64 (i : Int)] w fun e w' => e = .returned (RefR i (quoL (L.drop i))) ∧ w' = w := by
  have HI := Lib.hid (run_idx L)
  have hsz := Lib.size_mk L
  obtain ⟨n, hnn⟩ : ∃ n, L.length = n := ⟨_, rfl⟩
  obtain ⟨St, hSt⟩ : ∃ St, (⟨L.toArray⟩ : ByteArray) = St := ⟨_, rfl⟩
  rw [hSt] at HI hsz
  rw [hSt]
  rw [hnn] at hsz
  have HNN := Lib.hid hnn
  have hn0 : (n : Int) ≤ 1000000 := by omega
  have e1 : (L.drop i).drop 1 = L.drop (i + 1) := by rw [List.drop_drop]
  obtain ⟨R, hR⟩ : ∃ R, cntL quoI (L.drop (i + 1)) = R := ⟨_, rfl⟩
  obtain ⟨T, hT⟩ : ∃ T, quoL (L.drop i) = T := ⟨_, rfl⟩
  rw [hT]
  have HT : Hid ((if headP (isI 34) (L.drop (i + 1 + R)) = true then TR.ok 3 0 (R + 2) else .bad (R + 1)) = T) := Lib.hid (by rw [← hT]; unfold quoL; rw [e1, hR, List.drop_drop])
  have HR := Lib.hid hR
  have HII := Lib.hid hi
  obtain ⟨I0, hI0⟩ : ∃ I0 : Int, (i : Int) = I0 := ⟨_, rfl⟩
  have HI0 := Lib.hid hI0
  rw [hI0]
  have hib : 0 ≤ I0 ∧ I0 < 1000000 := by omega
  obtain ⟨hib0, hib1⟩ := hib
  clear hT hR hSt hnn hn hi e1 hI0
  go_enter Tryd.func40, Tryd.ntmps40
  go_wp2_with fail
  go_loopw [6] (fun jv wr => ∃ (m : Nat), Hid (i + 1 + m ≤ n) ∧ jv = .int .i64 ((i + 1 + m : Nat) : Int) ∧ Hid (cntL quoI (L.drop (i + 1 + m)) + m = R) ∧ wr = w) (fun jv _ => n + 1 - (intOf jv).toNat)
  case atStart => exact ⟨0, Lib.hid (by have := HII.out; have := HNN.out; omega), by have := HI0.out; go_num, Lib.hid HR.out, rfl⟩
  case round =>
    obtain ⟨m, HM, rfl, HRN, rfl⟩ := hrel
    have hm2 := HM.out
    obtain ⟨J, hJ⟩ : ∃ J : Int, ((i + 1 + m : Nat) : Int) = J := ⟨_, rfl⟩
    have HJI := Lib.hid hJ
    by_cases hlt : i + 1 + m < L.length
    · have hidx := HI.out (i + 1 + m) hlt
      have hc := cntL_cons quoI L[i + 1 + m] (L.drop (i + 1 + m + 1))
      rw [← List.drop_eq_getElem_cons hlt] at hc
      have hh := headP_in (p := isI 34) hlt
      obtain ⟨x0, x1⟩ := u8r (L[i + 1 + m])
      generalize ((L[i + 1 + m]).toNat : Int) = u at *
      rw [hJ] at hidx ⊢
      have q0 : decide (J < (n : Int)) = true := by have := HNN.out; simp; omega
      have hJb : 0 ≤ J ∧ J < 1000000 := by have := HNN.out; omega
      obtain ⟨j0, j1⟩ := hJb
      by_cases h34 : u = 34
      · have q1 : (u == 34) = true := by simp [h34]
        have HE : Hid (R = m) := Lib.hid (by have h5 := HRN.out; rw [hc, h34, if_neg (by decide)] at h5; omega)
        have HH : Hid (headP (isI 34) (L.drop (i + 1 + m)) = true) := Lib.hid (by rw [hh]; unfold isI; simp [h34])
        clear hh hc hlt hJ hm2 h34 x0 x1
        go_wp2_with fail
        go_ret2
        refine ⟨?_, rfl⟩
        rw [← HT.out, HE.out, if_pos HH.out]
        simp only [RefR]
        rw [show ((i + (m + 2) : Nat) : Int) = J + 1 by have := HJI.out; omega]
        rfl
      · have q1 : (u == 34) = false := by simp [h34]
        by_cases hlo : 32 ≤ u ∧ u ≤ 126
        · have q2 : decide (u < 32) = false := by simp; omega
          have q3 : decide (126 < u) = false := by simp; omega
          have HNX : Hid (cntL quoI (L.drop (i + 1 + (m + 1))) + (m + 1) = R) := Lib.hid (by
            have h5 := HRN.out
            have h6 : quoI u = true := by unfold quoI; simp [hlo.1, hlo.2, h34]
            rw [hc, if_pos h6, show i + 1 + m + 1 = i + 1 + (m + 1) by omega] at h5
            omega)
          have HLT := Lib.hid hlt
          clear hh hc hlt hJ hm2 h34 x0 x1 hlo
          go_wp2_with fail
          go_roundw
          case rel => exact ⟨m + 1, Lib.hid (by have := HLT.out; have := HNN.out; omega), by have := HJI.out; go_num, HNX, by first | trivial | rfl⟩
          case measure => have := HJI.out; have := HLT.out; have := HNN.out; simp [intOf]; omega
        · have HE : Hid (R = m) := Lib.hid (by
            have h5 := HRN.out
            have h6 : ¬ quoI u = true := by unfold quoI; simp; omega
            rw [hc, if_neg h6] at h5
            omega)
          have HH : Hid (¬ headP (isI 34) (L.drop (i + 1 + m)) = true) := Lib.hid (by rw [hh]; unfold isI; simp [h34])
          by_cases h32 : u < 32
          · have q2 : decide (u < 32) = true := by simp; omega
            clear hh hc hlt hJ hm2 h34 x0 x1 hlo h32
            go_wp2_with fail
            go_ret2
            refine ⟨?_, rfl⟩
            rw [← HT.out, HE.out, if_neg HH.out]
            simp only [RefR]
            rw [show ((i + (m + 1) : Nat) : Int) = J by have := HJI.out; omega]
            rfl
          · have q2 : decide (u < 32) = false := by simp; omega
            have q3 : decide (126 < u) = true := by simp; omega
            clear hh hc hlt hJ hm2 h34 x0 x1 hlo h32
            go_wp2_with fail
            go_ret2
            refine ⟨?_, rfl⟩
            rw [← HT.out, HE.out, if_neg HH.out]
            simp only [RefR]
            rw [show ((i + (m + 1) : Nat) : Int) = J by have := HJI.out; omega]
            rfl
    · have hj : i + 1 + m = n := by have := HNN.out; omega
      have hh : headP (isI 34) (L.drop (i + 1 + m)) = false := headP_out (by omega)
      have hd : L.drop (i + 1 + m) = [] := List.drop_eq_nil_of_le (by omega)
      rw [hJ]
      have q0 : decide (J < (n : Int)) = false := by have := HNN.out; simp; omega
      have HE : Hid (R = m) := Lib.hid (by have h5 := HRN.out; rw [hd] at h5; have h6 : 0 + m = R := h5; omega)
      have HH := Lib.hid hh
      have HJN := Lib.hid (show J = (n : Int) by omega)
      clear hh hlt hJ hm2 hj hd
      go_wp2_with fail
      go_ret2
      refine ⟨?_, rfl⟩
      rw [← HT.out, HE.out, if_neg (by rw [HH.out]; simp)]
      simp only [RefR]
      rw [show ((i + (m + 1) : Nat) : Int) = (n : Int) by have := HJI.out; have := HJN.out; omega]
      rfl
theorem digB_eq (B u : Int) : digB B u = (isHex u && decide (hexI u < B)) := rfl
set_option maxRecDepth 100000 in
set_option maxHeartbeats 1000000 in
theorem rnumber_any (L : List UInt8) (i : Nat) (w : World) (hi : i < L.length) (hn : L.length ≤ 1000000) : Calls Tryd.prog 39 #[.string ⟨L.toArray⟩, .int .i64 (i : Int)] w fun e w' => e = .returned (RefN i (numL (L.drop i))) ∧ w' = w := by
  have HI := Lib.hid (run_idx L)
  have hsz := Lib.size_mk L
  obtain ⟨N, hnn⟩ : ∃ N, L.length = N := ⟨_, rfl⟩
  obtain ⟨St, hSt⟩ : ∃ St, (⟨L.toArray⟩ : ByteArray) = St := ⟨_, rfl⟩
  rw [hSt] at HI hsz
  rw [hSt]
  rw [hnn] at hsz
  have HNN := Lib.hid hnn
  have hn0 : (N : Int) ≤ 1000000 := by omega
  obtain ⟨T, hT⟩ : ∃ T, numL (L.drop i) = T := ⟨_, rfl⟩
  rw [hT]
  have hi0 := HI.out i hi
  have hz0 : headP (isI 48) (L.drop i) = (((L[i]).toNat : Int) == 48) := headP_in hi
  have hz1 : ∀ h : i + 1 < L.length, headP (isI 120) ((L.drop i).drop 1) = (((L[i + 1]).toNat : Int) == 120) := fun h => by rw [List.drop_drop]; exact headP_in h
  have e2 : (L.drop i).drop 2 = L.drop (i + 2) := by rw [List.drop_drop]
  have e1 : (L.drop i).drop 1 = L.drop (i + 1) := by rw [List.drop_drop]
  unfold numL at hT
  generalize ((L[i]).toNat : Int) = x0 at *
  obtain ⟨I0, hI0⟩ : ∃ I0 : Int, (i : Int) = I0 := ⟨_, rfl⟩
  have HI0 := Lib.hid hI0
  have HII := Lib.hid hi
  rw [hI0] at hi0 ⊢
  have hib : 0 ≤ I0 ∧ I0 < 1000000 ∧ I0 < (N : Int) := by omega
  obtain ⟨hib0, hib1, hib2⟩ := hib
  cases hx0 : (x0 == 48) with
  | false =>
    rw [hz0, hx0] at hT
    rw [if_neg (by simp)] at hT
    have HTT : Hid (digsL 10 false (L.drop (i + 0)) 0 0 = T) := Lib.hid hT
    have HL0 : Hid (i + 0 ≤ N) := Lib.hid (by omega)
    clear hT hSt hnn hn hi hz0 hz1 e2 e1 hI0
    go_enter Tryd.func39, Tryd.ntmps39
    go_wp2_with fail
    go_loopw [8, 9] (fun jv vv wr => ∃ (n : Nat) (v : Int), Hid (i + n ≤ N) ∧ jv = .int .i64 ((i + n : Nat) : Int) ∧ vv = .int .i64 v ∧ 0 ≤ v ∧ v ≤ 4611686018427387904 ∧ Hid (digsL 10 false (L.drop (i + n)) v n = T) ∧ wr = w) (fun jv _ _ => N + 1 - (intOf jv).toNat)
    case atStart => exact ⟨0, 0, Lib.hid (by have := HL0.out; omega), by have := HI0.out; go_num, rfl, by omega, by omega, HTT.out, rfl⟩
    case round =>
      obtain ⟨n, v, HM, rfl, rfl, hv0, hv1, HT0, rfl⟩ := hrel
      obtain ⟨J, hJ⟩ : ∃ J : Int, ((i + n : Nat) : Int) = J := ⟨_, rfl⟩
      have HJI := Lib.hid hJ
      by_cases hlt : i + n < L.length
      · have hidx := HI.out (i + n) hlt
        have C51 := Lib.hid (rhex_any ((L[i + n]).toNat : Int) wr (u8r _).1 (u8r _).2)
        have C50 := Lib.hid (rwordly_any ((L[i + n]).toNat : Int) wr (u8r _).1 (u8r _).2)
        have hw := headP_in (p := worI) hlt
        have hd : headP (digB 10) (L.drop (i + n)) = (decide (0 ≤ hexI ((L[i + n]).toNat : Int)) && decide (hexI ((L[i + n]).toNat : Int) < 10)) := headP_in hlt
        have hdt := fun h => (digs_true (B := 10) (al := false) (v := v) (n := n) hlt h).2.2
        generalize hexI ((L[i + n]).toNat : Int) = d at *
        generalize ((L[i + n]).toNat : Int) = u at *
        have HW := Lib.hid hw
        rw [hJ] at hidx ⊢
        have q0 : decide (J < (N : Int)) = true := by have := HNN.out; simp; omega
        have hJb : 0 ≤ J ∧ J < 1000000 := by have := HNN.out; omega
        obtain ⟨j0, j1⟩ := hJb
        have HLT := Lib.hid hlt
        by_cases hdg : 0 ≤ d ∧ d < 10
        · have q1 : decide (0 ≤ d) = true := by simp; omega
          have q2 : decide (d < 10) = true := by simp; omega
          have HTX := Lib.hid (show (if false = true ∧ n ≠ 0 then TR.bad n else if v ≤ (4611686018427387904 - d) / 10 then digsL 10 false (L.drop (i + n + 1)) (10 * v + d) (n + 1) else .bad n) = T by rw [← hdt (by rw [hd, q1, q2]; rfl)]; exact HT0.out)
          obtain ⟨d0, d1⟩ := hdg
          clear hw hd hdt hlt hJ
          by_cases hn1 : n = 1
          · have q3 : (J == I0 + 1) = true := by have := HJI.out; have := HI0.out; simp; omega
            obtain ⟨qq, hqq⟩ : ∃ qq : Int, (4611686018427387904 - d) / 10 = qq := ⟨_, rfl⟩
            have HQQ := Lib.hid hqq
            have HWD : IntKind.i64.wrap (4611686018427387904 - d) = 4611686018427387904 - d := by rw [IntKind.wrap_i64]; omega
            have HQ : Int.tdiv (4611686018427387904 - d) 10 = qq := by rw [Int.tdiv_eq_ediv_of_nonneg (by omega)]; exact hqq
            have HWQ : IntKind.i64.wrap qq = qq := by rw [IntKind.wrap_i64]; omega
            by_cases hvq : v ≤ qq
            · have q5 : decide (qq < v) = false := by simp; omega
              have hvb : 10 * v + d ≤ 4611686018427387904 := by omega
              have HW1 : IntKind.i64.wrap (10 * v) = 10 * v := by rw [IntKind.wrap_i64]; omega
              have HW2 : IntKind.i64.wrap (10 * v + d) = 10 * v + d := by rw [IntKind.wrap_i64]; omega
              have HVB := Lib.hid (show 0 ≤ 10 * v + d ∧ 10 * v + d ≤ 4611686018427387904 by omega)
              have HNX := Lib.hid (show digsL 10 false (L.drop (i + (n + 1))) (10 * v + d) (n + 1) = T by rw [← HTX.out, if_neg (by simp), if_pos (by rw [HQQ.out]; exact hvq)]; rfl)
              clear hqq hvq
              go_wp2_with (first | (go_at_call 51; (with_reducible refine C51.out.mono ?_); rintro e w1 ⟨rfl, rfl⟩) | (go_at_call 50; (with_reducible refine C50.out.mono ?_); rintro e w1 ⟨rfl, rfl⟩))
              go_roundw
              case rel => exact ⟨n + 1, 10 * v + d, Lib.hid (by have := HLT.out; have := HNN.out; omega), by have := HJI.out; go_num, by first | rfl | go_num, HVB.out.1, HVB.out.2, HNX, by first | trivial | rfl⟩
              case measure => have := HJI.out; have := HLT.out; have := HNN.out; simp [intOf]; omega
            · have q5 : decide (qq < v) = true := by simp; omega
              have HVQ := Lib.hid hvq
              clear hqq hvq
              go_wp2_with (first | (go_at_call 51; (with_reducible refine C51.out.mono ?_); rintro e w1 ⟨rfl, rfl⟩) | (go_at_call 50; (with_reducible refine C50.out.mono ?_); rintro e w1 ⟨rfl, rfl⟩))
              go_ret3
              refine ⟨?_, rfl⟩
              rw [← HTX.out, if_neg (by simp), if_neg (by rw [HQQ.out]; have := HVQ.out; omega)]
              simp only [RefN]
              rw [HJI.out]
              rfl
          · have q3 : (J == I0 + 1) = false := by have := HJI.out; have := HI0.out; simp; omega
            obtain ⟨qq, hqq⟩ : ∃ qq : Int, (4611686018427387904 - d) / 10 = qq := ⟨_, rfl⟩
            have HQQ := Lib.hid hqq
            have HWD : IntKind.i64.wrap (4611686018427387904 - d) = 4611686018427387904 - d := by rw [IntKind.wrap_i64]; omega
            have HQ : Int.tdiv (4611686018427387904 - d) 10 = qq := by rw [Int.tdiv_eq_ediv_of_nonneg (by omega)]; exact hqq
            have HWQ : IntKind.i64.wrap qq = qq := by rw [IntKind.wrap_i64]; omega
            by_cases hvq : v ≤ qq
            · have q5 : decide (qq < v) = false := by simp; omega
              have hvb : 10 * v + d ≤ 4611686018427387904 := by omega
              have HW1 : IntKind.i64.wrap (10 * v) = 10 * v := by rw [IntKind.wrap_i64]; omega
              have HW2 : IntKind.i64.wrap (10 * v + d) = 10 * v + d := by rw [IntKind.wrap_i64]; omega
              have HVB := Lib.hid (show 0 ≤ 10 * v + d ∧ 10 * v + d ≤ 4611686018427387904 by omega)
              have HNX := Lib.hid (show digsL 10 false (L.drop (i + (n + 1))) (10 * v + d) (n + 1) = T by rw [← HTX.out, if_neg (by simp), if_pos (by rw [HQQ.out]; exact hvq)]; rfl)
              clear hqq hvq
              go_wp2_with (first | (go_at_call 51; (with_reducible refine C51.out.mono ?_); rintro e w1 ⟨rfl, rfl⟩) | (go_at_call 50; (with_reducible refine C50.out.mono ?_); rintro e w1 ⟨rfl, rfl⟩))
              go_roundw
              case rel => exact ⟨n + 1, 10 * v + d, Lib.hid (by have := HLT.out; have := HNN.out; omega), by have := HJI.out; go_num, by first | rfl | go_num, HVB.out.1, HVB.out.2, HNX, by first | trivial | rfl⟩
              case measure => have := HJI.out; have := HLT.out; have := HNN.out; simp [intOf]; omega
            · have q5 : decide (qq < v) = true := by simp; omega
              have HVQ := Lib.hid hvq
              clear hqq hvq
              go_wp2_with (first | (go_at_call 51; (with_reducible refine C51.out.mono ?_); rintro e w1 ⟨rfl, rfl⟩) | (go_at_call 50; (with_reducible refine C50.out.mono ?_); rintro e w1 ⟨rfl, rfl⟩))
              go_ret3
              refine ⟨?_, rfl⟩
              rw [← HTX.out, if_neg (by simp), if_neg (by rw [HQQ.out]; have := HVQ.out; omega)]
              simp only [RefN]
              rw [HJI.out]
              rfl
        · have hT := HT0.out
          rw [digs_false (by
            rw [hd]
            rcases (by omega : ¬ 0 ≤ d ∨ ¬ d < 10) with h | h
            · simp [h]
            · simp [h])] at hT
          have HTX := Lib.hid hT
          clear hd hdt hlt hJ hT
          rcases (by omega : ¬ 0 ≤ d ∨ (0 ≤ d ∧ ¬ d < 10)) with h | ⟨h, h9⟩
          · have q1 : decide (0 ≤ d) = false := by simp; omega
            cases hwu : worI u with
            | true =>
              rw [hwu] at C50
              clear hdg h hw
              go_wp2_with (first | (go_at_call 51; (with_reducible refine C51.out.mono ?_); rintro e w1 ⟨rfl, rfl⟩) | (go_at_call 50; (with_reducible refine C50.out.mono ?_); rintro e w1 ⟨rfl, rfl⟩))
              go_ret3
              refine ⟨?_, rfl⟩
              rw [← HTX.out, if_pos (by rw [HW.out, hwu])]
              simp only [RefN]
              rw [HJI.out]
              rfl
            | false =>
              rw [hwu] at C50
              clear hdg h hw
              go_wp2_with (first | (go_at_call 51; (with_reducible refine C51.out.mono ?_); rintro e w1 ⟨rfl, rfl⟩) | (go_at_call 50; (with_reducible refine C50.out.mono ?_); rintro e w1 ⟨rfl, rfl⟩))
              go_ret3
              refine ⟨?_, rfl⟩
              rw [← HTX.out, if_neg (by rw [HW.out, hwu]; simp)]
              simp only [RefN]
              rw [HJI.out]
              rfl
          · have q1 : decide (0 ≤ d) = true := by simp; omega
            have q2 : decide (d < 10) = false := by simp; omega
            cases hwu : worI u with
            | true =>
              rw [hwu] at C50
              clear hdg h h9 hw
              go_wp2_with (first | (go_at_call 51; (with_reducible refine C51.out.mono ?_); rintro e w1 ⟨rfl, rfl⟩) | (go_at_call 50; (with_reducible refine C50.out.mono ?_); rintro e w1 ⟨rfl, rfl⟩))
              go_ret3
              refine ⟨?_, rfl⟩
              rw [← HTX.out, if_pos (by rw [HW.out, hwu])]
              simp only [RefN]
              rw [HJI.out]
              rfl
            | false =>
              rw [hwu] at C50
              clear hdg h h9 hw
              go_wp2_with (first | (go_at_call 51; (with_reducible refine C51.out.mono ?_); rintro e w1 ⟨rfl, rfl⟩) | (go_at_call 50; (with_reducible refine C50.out.mono ?_); rintro e w1 ⟨rfl, rfl⟩))
              go_ret3
              refine ⟨?_, rfl⟩
              rw [← HTX.out, if_neg (by rw [HW.out, hwu]; simp)]
              simp only [RefN]
              rw [HJI.out]
              rfl
      · have hj : i + n = N := by have := HNN.out; have := HM.out; omega
        have hh : headP worI (L.drop (i + n)) = false := headP_out (by omega)
        have hh2 : headP (digB 10) (L.drop (i + n)) = false := headP_out (by omega)
        have hT := HT0.out
        rw [digs_false hh2, if_neg (by rw [hh]; simp)] at hT
        have HTX := Lib.hid hT
        rw [hJ]
        have q0 : decide (J < (N : Int)) = false := by have := HNN.out; simp; omega
        clear hh hh2 hlt hJ hj hT
        go_wp2_with fail
        go_ret3
        refine ⟨?_, rfl⟩
        rw [← HTX.out]
        simp only [RefN]
        rw [HJI.out]
        rfl
  | true =>
    rw [hz0, hx0] at hT
    by_cases hl1 : i + 1 < L.length
    · have hi1 := HI.out (i + 1) hl1
      have hx1 := hz1 hl1
      generalize ((L[i + 1]).toNat : Int) = x1 at *
      rw [hx1] at hT
      have hI1 : ((i + 1 : Nat) : Int) = I0 + 1 := by omega
      rw [hI1] at hi1
      have q7 : decide (I0 + 1 < (N : Int)) = true := by simp; omega
      cases hx : (x1 == 120) with
      | false =>
        rw [hx, if_neg (by simp)] at hT
        have HTT : Hid (digsL 10 true (L.drop (i + 0)) 0 0 = T) := Lib.hid hT
        have HL0 : Hid (i + 0 ≤ N) := Lib.hid (by omega)
        clear hT hSt hnn hn hi hz0 hz1 e2 e1 hI0 hl1 hx1 hI1
        go_enter Tryd.func39, Tryd.ntmps39
        go_wp2_with fail
        go_loopw [8, 9] (fun jv vv wr => ∃ (n : Nat) (v : Int), Hid (n ≤ 1 ∧ i + n ≤ N) ∧ jv = .int .i64 ((i + n : Nat) : Int) ∧ vv = .int .i64 v ∧ 0 ≤ v ∧ v ≤ 4611686018427387904 ∧ Hid (digsL 10 true (L.drop (i + n)) v n = T) ∧ wr = w) (fun jv _ _ => N + 1 - (intOf jv).toNat)
        case atStart => exact ⟨0, 0, Lib.hid (by have := HL0.out; omega), by have := HI0.out; go_num, rfl, by omega, by omega, HTT.out, rfl⟩
        case round =>
          obtain ⟨n, v, HM, rfl, rfl, hv0, hv1, HT0, rfl⟩ := hrel
          obtain ⟨J, hJ⟩ : ∃ J : Int, ((i + n : Nat) : Int) = J := ⟨_, rfl⟩
          have HJI := Lib.hid hJ
          by_cases hlt : i + n < L.length
          · have hidx := HI.out (i + n) hlt
            have C51 := Lib.hid (rhex_any ((L[i + n]).toNat : Int) wr (u8r _).1 (u8r _).2)
            have C50 := Lib.hid (rwordly_any ((L[i + n]).toNat : Int) wr (u8r _).1 (u8r _).2)
            have hw := headP_in (p := worI) hlt
            have hd : headP (digB 10) (L.drop (i + n)) = (decide (0 ≤ hexI ((L[i + n]).toNat : Int)) && decide (hexI ((L[i + n]).toNat : Int) < 10)) := headP_in hlt
            have hdt := fun h => (digs_true (B := 10) (al := true) (v := v) (n := n) hlt h).2.2
            generalize hexI ((L[i + n]).toNat : Int) = d at *
            generalize ((L[i + n]).toNat : Int) = u at *
            have HW := Lib.hid hw
            rw [hJ] at hidx ⊢
            have q0 : decide (J < (N : Int)) = true := by have := HNN.out; simp; omega
            have hJb : 0 ≤ J ∧ J < 1000000 := by have := HNN.out; omega
            obtain ⟨j0, j1⟩ := hJb
            have HLT := Lib.hid hlt
            by_cases hdg : 0 ≤ d ∧ d < 10
            · have q1 : decide (0 ≤ d) = true := by simp; omega
              have q2 : decide (d < 10) = true := by simp; omega
              have HTX := Lib.hid (show (if true = true ∧ n ≠ 0 then TR.bad n else if v ≤ (4611686018427387904 - d) / 10 then digsL 10 true (L.drop (i + n + 1)) (10 * v + d) (n + 1) else .bad n) = T by rw [← hdt (by rw [hd, q1, q2]; rfl)]; exact HT0.out)
              obtain ⟨d0, d1⟩ := hdg
              clear hw hd hdt hlt hJ
              by_cases hn1 : n = 1
              · have q3 : (J == I0 + 1) = true := by have := HJI.out; have := HI0.out; simp; omega
                go_wp2_with (first | (go_at_call 51; (with_reducible refine C51.out.mono ?_); rintro e w1 ⟨rfl, rfl⟩) | (go_at_call 50; (with_reducible refine C50.out.mono ?_); rintro e w1 ⟨rfl, rfl⟩))
                go_ret3
                refine ⟨?_, rfl⟩
                rw [← HTX.out, if_pos (by first | exact ⟨rfl, by omega⟩ | exact ⟨trivial, by omega⟩)]
                simp only [RefN]
                rw [HJI.out]
                rfl
              · have hn0 : n = 0 := by have := HM.out; omega
                have q3 : (J == I0 + 1) = false := by have := HJI.out; have := HI0.out; simp; omega
                obtain ⟨qq, hqq⟩ : ∃ qq : Int, (4611686018427387904 - d) / 10 = qq := ⟨_, rfl⟩
                have HQQ := Lib.hid hqq
                have HWD : IntKind.i64.wrap (4611686018427387904 - d) = 4611686018427387904 - d := by rw [IntKind.wrap_i64]; omega
                have HQ : Int.tdiv (4611686018427387904 - d) 10 = qq := by rw [Int.tdiv_eq_ediv_of_nonneg (by omega)]; exact hqq
                have HWQ : IntKind.i64.wrap qq = qq := by rw [IntKind.wrap_i64]; omega
                by_cases hvq : v ≤ qq
                · have q5 : decide (qq < v) = false := by simp; omega
                  have hvb : 10 * v + d ≤ 4611686018427387904 := by omega
                  have HW1 : IntKind.i64.wrap (10 * v) = 10 * v := by rw [IntKind.wrap_i64]; omega
                  have HW2 : IntKind.i64.wrap (10 * v + d) = 10 * v + d := by rw [IntKind.wrap_i64]; omega
                  have HVB := Lib.hid (show 0 ≤ 10 * v + d ∧ 10 * v + d ≤ 4611686018427387904 by omega)
                  have HNX := Lib.hid (show digsL 10 true (L.drop (i + (n + 1))) (10 * v + d) (n + 1) = T by rw [← HTX.out, if_neg (by omega), if_pos (by rw [HQQ.out]; exact hvq)]; rfl)
                  clear hqq hvq
                  go_wp2_with (first | (go_at_call 51; (with_reducible refine C51.out.mono ?_); rintro e w1 ⟨rfl, rfl⟩) | (go_at_call 50; (with_reducible refine C50.out.mono ?_); rintro e w1 ⟨rfl, rfl⟩))
                  go_roundw
                  case rel => exact ⟨n + 1, 10 * v + d, Lib.hid (by have := HLT.out; have := HNN.out; omega), by have := HJI.out; go_num, by first | rfl | go_num, HVB.out.1, HVB.out.2, HNX, by first | trivial | rfl⟩
                  case measure => have := HJI.out; have := HLT.out; have := HNN.out; simp [intOf]; omega
                · have q5 : decide (qq < v) = true := by simp; omega
                  have HVQ := Lib.hid hvq
                  clear hqq hvq
                  go_wp2_with (first | (go_at_call 51; (with_reducible refine C51.out.mono ?_); rintro e w1 ⟨rfl, rfl⟩) | (go_at_call 50; (with_reducible refine C50.out.mono ?_); rintro e w1 ⟨rfl, rfl⟩))
                  go_ret3
                  refine ⟨?_, rfl⟩
                  rw [← HTX.out, if_neg (by omega), if_neg (by rw [HQQ.out]; have := HVQ.out; omega)]
                  simp only [RefN]
                  rw [HJI.out]
                  rfl
            · have hT := HT0.out
              rw [digs_false (by
                rw [hd]
                rcases (by omega : ¬ 0 ≤ d ∨ ¬ d < 10) with h | h
                · simp [h]
                · simp [h])] at hT
              have HTX := Lib.hid hT
              clear hd hdt hlt hJ hT
              rcases (by omega : ¬ 0 ≤ d ∨ (0 ≤ d ∧ ¬ d < 10)) with h | ⟨h, h9⟩
              · have q1 : decide (0 ≤ d) = false := by simp; omega
                cases hwu : worI u with
                | true =>
                  rw [hwu] at C50
                  clear hdg h hw
                  go_wp2_with (first | (go_at_call 51; (with_reducible refine C51.out.mono ?_); rintro e w1 ⟨rfl, rfl⟩) | (go_at_call 50; (with_reducible refine C50.out.mono ?_); rintro e w1 ⟨rfl, rfl⟩))
                  go_ret3
                  refine ⟨?_, rfl⟩
                  rw [← HTX.out, if_pos (by rw [HW.out, hwu])]
                  simp only [RefN]
                  rw [HJI.out]
                  rfl
                | false =>
                  rw [hwu] at C50
                  clear hdg h hw
                  go_wp2_with (first | (go_at_call 51; (with_reducible refine C51.out.mono ?_); rintro e w1 ⟨rfl, rfl⟩) | (go_at_call 50; (with_reducible refine C50.out.mono ?_); rintro e w1 ⟨rfl, rfl⟩))
                  go_ret3
                  refine ⟨?_, rfl⟩
                  rw [← HTX.out, if_neg (by rw [HW.out, hwu]; simp)]
                  simp only [RefN]
                  rw [HJI.out]
                  rfl
              · have q1 : decide (0 ≤ d) = true := by simp; omega
                have q2 : decide (d < 10) = false := by simp; omega
                cases hwu : worI u with
                | true =>
                  rw [hwu] at C50
                  clear hdg h h9 hw
                  go_wp2_with (first | (go_at_call 51; (with_reducible refine C51.out.mono ?_); rintro e w1 ⟨rfl, rfl⟩) | (go_at_call 50; (with_reducible refine C50.out.mono ?_); rintro e w1 ⟨rfl, rfl⟩))
                  go_ret3
                  refine ⟨?_, rfl⟩
                  rw [← HTX.out, if_pos (by rw [HW.out, hwu])]
                  simp only [RefN]
                  rw [HJI.out]
                  rfl
                | false =>
                  rw [hwu] at C50
                  clear hdg h h9 hw
                  go_wp2_with (first | (go_at_call 51; (with_reducible refine C51.out.mono ?_); rintro e w1 ⟨rfl, rfl⟩) | (go_at_call 50; (with_reducible refine C50.out.mono ?_); rintro e w1 ⟨rfl, rfl⟩))
                  go_ret3
                  refine ⟨?_, rfl⟩
                  rw [← HTX.out, if_neg (by rw [HW.out, hwu]; simp)]
                  simp only [RefN]
                  rw [HJI.out]
                  rfl
          · have hj : i + n = N := by have := HNN.out; have := HM.out; omega
            have hh : headP worI (L.drop (i + n)) = false := headP_out (by omega)
            have hh2 : headP (digB 10) (L.drop (i + n)) = false := headP_out (by omega)
            have hT := HT0.out
            rw [digs_false hh2, if_neg (by rw [hh]; simp)] at hT
            have HTX := Lib.hid hT
            rw [hJ]
            have q0 : decide (J < (N : Int)) = false := by have := HNN.out; simp; omega
            clear hh hh2 hlt hJ hj hT
            go_wp2_with fail
            go_ret3
            refine ⟨?_, rfl⟩
            rw [← HTX.out]
            simp only [RefN]
            rw [HJI.out]
            rfl
      | true =>
        rw [hx, if_pos (by simp), e2] at hT
        have HL0 : Hid (i + 2 ≤ N) := Lib.hid (by omega)
        by_cases hl2 : i + 2 < L.length
        · have hi2 := HI.out (i + 2) hl2
          have hh := headP_in (p := isHex) hl2
          have C51 := Lib.hid (rhex_any ((L[i + 2]).toNat : Int) w (u8r _).1 (u8r _).2)
          rw [hh] at hT
          unfold isHex at hT
          generalize hexI ((L[i + 2]).toNat : Int) = d2 at *
          generalize ((L[i + 2]).toNat : Int) = x2 at *
          have hI2 : ((i + 2 : Nat) : Int) = I0 + 2 := by omega
          rw [hI2] at hi2
          have q8 : (I0 + 2 == (N : Int)) = false := by simp; omega
          by_cases hd2 : 0 ≤ d2
          · have q9 : decide (d2 < 0) = false := by simp; omega
            rw [if_pos (by simpa using hd2)] at hT
            have HTT : Hid (digsL 16 false (L.drop (i + 2)) 0 2 = T) := Lib.hid hT
            clear hT hSt hnn hn hi hz0 hz1 e2 e1 hI0 hl1 hx1 hI1 hl2 hh hI2 hd2
            go_enter Tryd.func39, Tryd.ntmps39
            go_wp2_with (go_at_call 51; (with_reducible refine C51.out.mono ?_); rintro e w1 ⟨rfl, hw1⟩; rw [hw1]; clear hw1)
            clear C51
            go_loopw [8, 9] (fun jv vv wr => ∃ (n : Nat) (v : Int), Hid (i + n ≤ N) ∧ jv = .int .i64 ((i + n : Nat) : Int) ∧ vv = .int .i64 v ∧ 0 ≤ v ∧ v ≤ 4611686018427387904 ∧ Hid (digsL 16 false (L.drop (i + n)) v n = T) ∧ wr = w) (fun jv _ _ => N + 1 - (intOf jv).toNat)
            case atStart => exact ⟨2, 0, Lib.hid (by have := HL0.out; omega), by have := HI0.out; go_num, rfl, by omega, by omega, HTT.out, rfl⟩
            case round =>
              obtain ⟨n, v, HM, rfl, rfl, hv0, hv1, HT0, rfl⟩ := hrel
              obtain ⟨J, hJ⟩ : ∃ J : Int, ((i + n : Nat) : Int) = J := ⟨_, rfl⟩
              have HJI := Lib.hid hJ
              by_cases hlt : i + n < L.length
              · have hidx := HI.out (i + n) hlt
                have C51 := Lib.hid (rhex_any ((L[i + n]).toNat : Int) wr (u8r _).1 (u8r _).2)
                have C50 := Lib.hid (rwordly_any ((L[i + n]).toNat : Int) wr (u8r _).1 (u8r _).2)
                have hw := headP_in (p := worI) hlt
                have hd : headP (digB 16) (L.drop (i + n)) = (decide (0 ≤ hexI ((L[i + n]).toNat : Int)) && decide (hexI ((L[i + n]).toNat : Int) < 16)) := headP_in hlt
                have hdt := fun h => (digs_true (B := 16) (al := false) (v := v) (n := n) hlt h).2.2
                generalize hexI ((L[i + n]).toNat : Int) = d at *
                generalize ((L[i + n]).toNat : Int) = u at *
                have HW := Lib.hid hw
                rw [hJ] at hidx ⊢
                have q0 : decide (J < (N : Int)) = true := by have := HNN.out; simp; omega
                have hJb : 0 ≤ J ∧ J < 1000000 := by have := HNN.out; omega
                obtain ⟨j0, j1⟩ := hJb
                have HLT := Lib.hid hlt
                by_cases hdg : 0 ≤ d ∧ d < 16
                · have q1 : decide (0 ≤ d) = true := by simp; omega
                  have q2 : decide (d < 16) = true := by simp; omega
                  have HTX := Lib.hid (show (if false = true ∧ n ≠ 0 then TR.bad n else if v ≤ (4611686018427387904 - d) / 16 then digsL 16 false (L.drop (i + n + 1)) (16 * v + d) (n + 1) else .bad n) = T by rw [← hdt (by rw [hd, q1, q2]; rfl)]; exact HT0.out)
                  obtain ⟨d0, d1⟩ := hdg
                  clear hw hd hdt hlt hJ
                  obtain ⟨qq, hqq⟩ : ∃ qq : Int, (4611686018427387904 - d) / 16 = qq := ⟨_, rfl⟩
                  have HQQ := Lib.hid hqq
                  have HWD : IntKind.i64.wrap (4611686018427387904 - d) = 4611686018427387904 - d := by rw [IntKind.wrap_i64]; omega
                  have HQ : Int.tdiv (4611686018427387904 - d) 16 = qq := by rw [Int.tdiv_eq_ediv_of_nonneg (by omega)]; exact hqq
                  have HWQ : IntKind.i64.wrap qq = qq := by rw [IntKind.wrap_i64]; omega
                  by_cases hvq : v ≤ qq
                  · have q5 : decide (qq < v) = false := by simp; omega
                    have hvb : 16 * v + d ≤ 4611686018427387904 := by omega
                    have HW1 : IntKind.i64.wrap (16 * v) = 16 * v := by rw [IntKind.wrap_i64]; omega
                    have HW2 : IntKind.i64.wrap (16 * v + d) = 16 * v + d := by rw [IntKind.wrap_i64]; omega
                    have HVB := Lib.hid (show 0 ≤ 16 * v + d ∧ 16 * v + d ≤ 4611686018427387904 by omega)
                    have HNX := Lib.hid (show digsL 16 false (L.drop (i + (n + 1))) (16 * v + d) (n + 1) = T by rw [← HTX.out, if_neg (by simp), if_pos (by rw [HQQ.out]; exact hvq)]; rfl)
                    clear hqq hvq
                    go_wp2_with (first | (go_at_call 51; (with_reducible refine C51.out.mono ?_); rintro e w1 ⟨rfl, rfl⟩) | (go_at_call 50; (with_reducible refine C50.out.mono ?_); rintro e w1 ⟨rfl, rfl⟩))
                    go_roundw
                    case rel => exact ⟨n + 1, 16 * v + d, Lib.hid (by have := HLT.out; have := HNN.out; omega), by have := HJI.out; go_num, by first | rfl | go_num, HVB.out.1, HVB.out.2, HNX, by first | trivial | rfl⟩
                    case measure => have := HJI.out; have := HLT.out; have := HNN.out; simp [intOf]; omega
                  · have q5 : decide (qq < v) = true := by simp; omega
                    have HVQ := Lib.hid hvq
                    clear hqq hvq
                    go_wp2_with (first | (go_at_call 51; (with_reducible refine C51.out.mono ?_); rintro e w1 ⟨rfl, rfl⟩) | (go_at_call 50; (with_reducible refine C50.out.mono ?_); rintro e w1 ⟨rfl, rfl⟩))
                    go_ret3
                    refine ⟨?_, rfl⟩
                    rw [← HTX.out, if_neg (by simp), if_neg (by rw [HQQ.out]; have := HVQ.out; omega)]
                    simp only [RefN]
                    rw [HJI.out]
                    rfl
                · have hT := HT0.out
                  rw [digs_false (by
                    rw [hd]
                    rcases (by omega : ¬ 0 ≤ d ∨ ¬ d < 16) with h | h
                    · simp [h]
                    · simp [h])] at hT
                  have HTX := Lib.hid hT
                  clear hd hdt hlt hJ hT
                  rcases (by omega : ¬ 0 ≤ d ∨ (0 ≤ d ∧ ¬ d < 16)) with h | ⟨h, h9⟩
                  · have q1 : decide (0 ≤ d) = false := by simp; omega
                    cases hwu : worI u with
                    | true =>
                      rw [hwu] at C50
                      clear hdg h hw
                      go_wp2_with (first | (go_at_call 51; (with_reducible refine C51.out.mono ?_); rintro e w1 ⟨rfl, rfl⟩) | (go_at_call 50; (with_reducible refine C50.out.mono ?_); rintro e w1 ⟨rfl, rfl⟩))
                      go_ret3
                      refine ⟨?_, rfl⟩
                      rw [← HTX.out, if_pos (by rw [HW.out, hwu])]
                      simp only [RefN]
                      rw [HJI.out]
                      rfl
                    | false =>
                      rw [hwu] at C50
                      clear hdg h hw
                      go_wp2_with (first | (go_at_call 51; (with_reducible refine C51.out.mono ?_); rintro e w1 ⟨rfl, rfl⟩) | (go_at_call 50; (with_reducible refine C50.out.mono ?_); rintro e w1 ⟨rfl, rfl⟩))
                      go_ret3
                      refine ⟨?_, rfl⟩
                      rw [← HTX.out, if_neg (by rw [HW.out, hwu]; simp)]
                      simp only [RefN]
                      rw [HJI.out]
                      rfl
                  · have q1 : decide (0 ≤ d) = true := by simp; omega
                    have q2 : decide (d < 16) = false := by simp; omega
                    cases hwu : worI u with
                    | true =>
                      rw [hwu] at C50
                      clear hdg h h9 hw
                      go_wp2_with (first | (go_at_call 51; (with_reducible refine C51.out.mono ?_); rintro e w1 ⟨rfl, rfl⟩) | (go_at_call 50; (with_reducible refine C50.out.mono ?_); rintro e w1 ⟨rfl, rfl⟩))
                      go_ret3
                      refine ⟨?_, rfl⟩
                      rw [← HTX.out, if_pos (by rw [HW.out, hwu])]
                      simp only [RefN]
                      rw [HJI.out]
                      rfl
                    | false =>
                      rw [hwu] at C50
                      clear hdg h h9 hw
                      go_wp2_with (first | (go_at_call 51; (with_reducible refine C51.out.mono ?_); rintro e w1 ⟨rfl, rfl⟩) | (go_at_call 50; (with_reducible refine C50.out.mono ?_); rintro e w1 ⟨rfl, rfl⟩))
                      go_ret3
                      refine ⟨?_, rfl⟩
                      rw [← HTX.out, if_neg (by rw [HW.out, hwu]; simp)]
                      simp only [RefN]
                      rw [HJI.out]
                      rfl
              · have hj : i + n = N := by have := HNN.out; have := HM.out; omega
                have hh : headP worI (L.drop (i + n)) = false := headP_out (by omega)
                have hh2 : headP (digB 16) (L.drop (i + n)) = false := headP_out (by omega)
                have hT := HT0.out
                rw [digs_false hh2, if_neg (by rw [hh]; simp)] at hT
                have HTX := Lib.hid hT
                rw [hJ]
                have q0 : decide (J < (N : Int)) = false := by have := HNN.out; simp; omega
                clear hh hh2 hlt hJ hj hT
                go_wp2_with fail
                go_ret3
                refine ⟨?_, rfl⟩
                rw [← HTX.out]
                simp only [RefN]
                rw [HJI.out]
                rfl
          · have q9 : decide (d2 < 0) = true := by simp; omega
            rw [if_neg (by simpa using hd2)] at hT
            have HTX := Lib.hid hT
            have HJI := Lib.hid hI2
            clear hT hSt hnn hn hi hz0 hz1 e2 e1 hI0 hl1 hx1 hI1 hl2 hh hd2
            go_enter Tryd.func39, Tryd.ntmps39
            go_wp2_with (go_at_call 51; (with_reducible refine C51.out.mono ?_); rintro e w1 ⟨rfl, rfl⟩)
            go_ret3
            refine ⟨?_, rfl⟩
            rw [← HTX.out]
            simp only [RefN]
            rw [HJI.out]
            rfl
        · have q8 : (I0 + 2 == (N : Int)) = true := by simp; omega
          rw [headP_out (by omega), if_neg (by simp)] at hT
          have HTX := Lib.hid hT
          have HJI := Lib.hid (show ((i + 2 : Nat) : Int) = I0 + 2 by omega)
          clear hT hSt hnn hn hi hz0 hz1 e2 e1 hI0 hl1 hx1 hI1 hl2
          go_enter Tryd.func39, Tryd.ntmps39
          go_wp2_with fail
          go_ret3
          refine ⟨?_, rfl⟩
          rw [← HTX.out]
          simp only [RefN]
          rw [HJI.out]
          rfl
    · have q7 : decide (I0 + 1 < (N : Int)) = false := by simp; omega
      rw [e1, headP_out (by omega), if_neg (by simp)] at hT
      have HTT : Hid (digsL 10 true (L.drop (i + 0)) 0 0 = T) := Lib.hid hT
      have HL0 : Hid (i + 0 ≤ N) := Lib.hid (by omega)
      clear hT hSt hnn hn hi hz0 hz1 e2 e1 hI0 hl1
      go_enter Tryd.func39, Tryd.ntmps39
      go_wp2_with fail
      go_loopw [8, 9] (fun jv vv wr => ∃ (n : Nat) (v : Int), Hid (n ≤ 1 ∧ i + n ≤ N) ∧ jv = .int .i64 ((i + n : Nat) : Int) ∧ vv = .int .i64 v ∧ 0 ≤ v ∧ v ≤ 4611686018427387904 ∧ Hid (digsL 10 true (L.drop (i + n)) v n = T) ∧ wr = w) (fun jv _ _ => N + 1 - (intOf jv).toNat)
      case atStart => exact ⟨0, 0, Lib.hid (by have := HL0.out; omega), by have := HI0.out; go_num, rfl, by omega, by omega, HTT.out, rfl⟩
      case round =>
        obtain ⟨n, v, HM, rfl, rfl, hv0, hv1, HT0, rfl⟩ := hrel
        obtain ⟨J, hJ⟩ : ∃ J : Int, ((i + n : Nat) : Int) = J := ⟨_, rfl⟩
        have HJI := Lib.hid hJ
        by_cases hlt : i + n < L.length
        · have hidx := HI.out (i + n) hlt
          have C51 := Lib.hid (rhex_any ((L[i + n]).toNat : Int) wr (u8r _).1 (u8r _).2)
          have C50 := Lib.hid (rwordly_any ((L[i + n]).toNat : Int) wr (u8r _).1 (u8r _).2)
          have hw := headP_in (p := worI) hlt
          have hd : headP (digB 10) (L.drop (i + n)) = (decide (0 ≤ hexI ((L[i + n]).toNat : Int)) && decide (hexI ((L[i + n]).toNat : Int) < 10)) := headP_in hlt
          have hdt := fun h => (digs_true (B := 10) (al := true) (v := v) (n := n) hlt h).2.2
          generalize hexI ((L[i + n]).toNat : Int) = d at *
          generalize ((L[i + n]).toNat : Int) = u at *
          have HW := Lib.hid hw
          rw [hJ] at hidx ⊢
          have q0 : decide (J < (N : Int)) = true := by have := HNN.out; simp; omega
          have hJb : 0 ≤ J ∧ J < 1000000 := by have := HNN.out; omega
          obtain ⟨j0, j1⟩ := hJb
          have HLT := Lib.hid hlt
          by_cases hdg : 0 ≤ d ∧ d < 10
          · have q1 : decide (0 ≤ d) = true := by simp; omega
            have q2 : decide (d < 10) = true := by simp; omega
            have HTX := Lib.hid (show (if true = true ∧ n ≠ 0 then TR.bad n else if v ≤ (4611686018427387904 - d) / 10 then digsL 10 true (L.drop (i + n + 1)) (10 * v + d) (n + 1) else .bad n) = T by rw [← hdt (by rw [hd, q1, q2]; rfl)]; exact HT0.out)
            obtain ⟨d0, d1⟩ := hdg
            clear hw hd hdt hlt hJ
            by_cases hn1 : n = 1
            · have q3 : (J == I0 + 1) = true := by have := HJI.out; have := HI0.out; simp; omega
              go_wp2_with (first | (go_at_call 51; (with_reducible refine C51.out.mono ?_); rintro e w1 ⟨rfl, rfl⟩) | (go_at_call 50; (with_reducible refine C50.out.mono ?_); rintro e w1 ⟨rfl, rfl⟩))
              go_ret3
              refine ⟨?_, rfl⟩
              rw [← HTX.out, if_pos (by first | exact ⟨rfl, by omega⟩ | exact ⟨trivial, by omega⟩)]
              simp only [RefN]
              rw [HJI.out]
              rfl
            · have hn0 : n = 0 := by have := HM.out; omega
              have q3 : (J == I0 + 1) = false := by have := HJI.out; have := HI0.out; simp; omega
              obtain ⟨qq, hqq⟩ : ∃ qq : Int, (4611686018427387904 - d) / 10 = qq := ⟨_, rfl⟩
              have HQQ := Lib.hid hqq
              have HWD : IntKind.i64.wrap (4611686018427387904 - d) = 4611686018427387904 - d := by rw [IntKind.wrap_i64]; omega
              have HQ : Int.tdiv (4611686018427387904 - d) 10 = qq := by rw [Int.tdiv_eq_ediv_of_nonneg (by omega)]; exact hqq
              have HWQ : IntKind.i64.wrap qq = qq := by rw [IntKind.wrap_i64]; omega
              by_cases hvq : v ≤ qq
              · have q5 : decide (qq < v) = false := by simp; omega
                have hvb : 10 * v + d ≤ 4611686018427387904 := by omega
                have HW1 : IntKind.i64.wrap (10 * v) = 10 * v := by rw [IntKind.wrap_i64]; omega
                have HW2 : IntKind.i64.wrap (10 * v + d) = 10 * v + d := by rw [IntKind.wrap_i64]; omega
                have HVB := Lib.hid (show 0 ≤ 10 * v + d ∧ 10 * v + d ≤ 4611686018427387904 by omega)
                have HNX := Lib.hid (show digsL 10 true (L.drop (i + (n + 1))) (10 * v + d) (n + 1) = T by rw [← HTX.out, if_neg (by omega), if_pos (by rw [HQQ.out]; exact hvq)]; rfl)
                clear hqq hvq
                go_wp2_with (first | (go_at_call 51; (with_reducible refine C51.out.mono ?_); rintro e w1 ⟨rfl, rfl⟩) | (go_at_call 50; (with_reducible refine C50.out.mono ?_); rintro e w1 ⟨rfl, rfl⟩))
                go_roundw
                case rel => exact ⟨n + 1, 10 * v + d, Lib.hid (by have := HLT.out; have := HNN.out; omega), by have := HJI.out; go_num, by first | rfl | go_num, HVB.out.1, HVB.out.2, HNX, by first | trivial | rfl⟩
                case measure => have := HJI.out; have := HLT.out; have := HNN.out; simp [intOf]; omega
              · have q5 : decide (qq < v) = true := by simp; omega
                have HVQ := Lib.hid hvq
                clear hqq hvq
                go_wp2_with (first | (go_at_call 51; (with_reducible refine C51.out.mono ?_); rintro e w1 ⟨rfl, rfl⟩) | (go_at_call 50; (with_reducible refine C50.out.mono ?_); rintro e w1 ⟨rfl, rfl⟩))
                go_ret3
                refine ⟨?_, rfl⟩
                rw [← HTX.out, if_neg (by omega), if_neg (by rw [HQQ.out]; have := HVQ.out; omega)]
                simp only [RefN]
                rw [HJI.out]
                rfl
          · have hT := HT0.out
            rw [digs_false (by
              rw [hd]
              rcases (by omega : ¬ 0 ≤ d ∨ ¬ d < 10) with h | h
              · simp [h]
              · simp [h])] at hT
            have HTX := Lib.hid hT
            clear hd hdt hlt hJ hT
            rcases (by omega : ¬ 0 ≤ d ∨ (0 ≤ d ∧ ¬ d < 10)) with h | ⟨h, h9⟩
            · have q1 : decide (0 ≤ d) = false := by simp; omega
              cases hwu : worI u with
              | true =>
                rw [hwu] at C50
                clear hdg h hw
                go_wp2_with (first | (go_at_call 51; (with_reducible refine C51.out.mono ?_); rintro e w1 ⟨rfl, rfl⟩) | (go_at_call 50; (with_reducible refine C50.out.mono ?_); rintro e w1 ⟨rfl, rfl⟩))
                go_ret3
                refine ⟨?_, rfl⟩
                rw [← HTX.out, if_pos (by rw [HW.out, hwu])]
                simp only [RefN]
                rw [HJI.out]
                rfl
              | false =>
                rw [hwu] at C50
                clear hdg h hw
                go_wp2_with (first | (go_at_call 51; (with_reducible refine C51.out.mono ?_); rintro e w1 ⟨rfl, rfl⟩) | (go_at_call 50; (with_reducible refine C50.out.mono ?_); rintro e w1 ⟨rfl, rfl⟩))
                go_ret3
                refine ⟨?_, rfl⟩
                rw [← HTX.out, if_neg (by rw [HW.out, hwu]; simp)]
                simp only [RefN]
                rw [HJI.out]
                rfl
            · have q1 : decide (0 ≤ d) = true := by simp; omega
              have q2 : decide (d < 10) = false := by simp; omega
              cases hwu : worI u with
              | true =>
                rw [hwu] at C50
                clear hdg h h9 hw
                go_wp2_with (first | (go_at_call 51; (with_reducible refine C51.out.mono ?_); rintro e w1 ⟨rfl, rfl⟩) | (go_at_call 50; (with_reducible refine C50.out.mono ?_); rintro e w1 ⟨rfl, rfl⟩))
                go_ret3
                refine ⟨?_, rfl⟩
                rw [← HTX.out, if_pos (by rw [HW.out, hwu])]
                simp only [RefN]
                rw [HJI.out]
                rfl
              | false =>
                rw [hwu] at C50
                clear hdg h h9 hw
                go_wp2_with (first | (go_at_call 51; (with_reducible refine C51.out.mono ?_); rintro e w1 ⟨rfl, rfl⟩) | (go_at_call 50; (with_reducible refine C50.out.mono ?_); rintro e w1 ⟨rfl, rfl⟩))
                go_ret3
                refine ⟨?_, rfl⟩
                rw [← HTX.out, if_neg (by rw [HW.out, hwu]; simp)]
                simp only [RefN]
                rw [HJI.out]
                rfl
        · have hj : i + n = N := by have := HNN.out; have := HM.out; omega
          have hh : headP worI (L.drop (i + n)) = false := headP_out (by omega)
          have hh2 : headP (digB 10) (L.drop (i + n)) = false := headP_out (by omega)
          have hT := HT0.out
          rw [digs_false hh2, if_neg (by rw [hh]; simp)] at hT
          have HTX := Lib.hid hT
          rw [hJ]
          have q0 : decide (J < (N : Int)) = false := by have := HNN.out; simp; omega
          clear hh hh2 hlt hJ hj hT
          go_wp2_with fail
          go_ret3
          refine ⟨?_, rfl⟩
          rw [← HTX.out]
          simp only [RefN]
          rw [HJI.out]
          rfl

end Go.Proofs.YtkihoekldklkhaaDoor
