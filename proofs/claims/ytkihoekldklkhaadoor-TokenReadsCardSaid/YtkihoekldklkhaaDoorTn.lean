/- The reference: hex, among, Lines, word, quoted. -/
import Derived.Test.YtkihoekldklkhaaDoorTh
namespace Go.Proofs.YtkihoekldklkhaaDoor
open Go.RowKit
set_option linter.unusedVariables false
set_option linter.unusedSimpArgs false

set_option maxRecDepth 100000 in
set_option maxHeartbeats 400000 in
theorem rhex_any (x : Int) (w : World) (h0 : 0 ≤ x) (h1 : x < 256) : Calls Tryd.prog 51 #[.int .u8 x] w fun e w' => e = .returned (.int .i64 (hexI x)) ∧ w' = w := by
  have C38 := Lib.hid (rdigit_any x w h0 h1)
  unfold hexI
  cases hd : digI x with
  | true =>
    rw [hd] at C38
    rw [if_pos rfl]
    have h2 : 48 ≤ x ∧ x ≤ 57 := by unfold digI at hd; simpa using hd
    clear h0 h1 hd
    go_enter Tryd.func51, Tryd.ntmps51
    go_wp2_with (go_at_call 38; (with_reducible refine C38.out.mono ?_); rintro e w1 ⟨rfl, rfl⟩)
    go_ret
    exact ⟨by first | rfl | (simp; omega), rfl⟩
  | false =>
    rw [hd] at C38
    rw [if_neg (by simp)]
    clear hd
    rcases (by omega : (97 ≤ x ∧ x ≤ 102) ∨ (65 ≤ x ∧ x ≤ 70) ∨ x < 65 ∨ (70 < x ∧ x < 97) ∨ 102 < x) with h | h | h | h | h
    · rw [if_pos h]
      have q0 : decide (97 ≤ x) = true := by simp; omega
      have q1 : decide (x ≤ 102) = true := by simp; omega
      go_enter Tryd.func51, Tryd.ntmps51
      go_wp2_with (go_at_call 38; (with_reducible refine C38.out.mono ?_); rintro e w1 ⟨rfl, rfl⟩)
      go_ret
      exact ⟨by first | rfl | (simp; omega), rfl⟩
    · rw [if_neg (by omega), if_pos h]
      have q0 : decide (97 ≤ x) = false := by simp; omega
      have q2 : decide (65 ≤ x) = true := by simp; omega
      have q3 : decide (x ≤ 70) = true := by simp; omega
      go_enter Tryd.func51, Tryd.ntmps51
      go_wp2_with (go_at_call 38; (with_reducible refine C38.out.mono ?_); rintro e w1 ⟨rfl, rfl⟩)
      go_ret
      exact ⟨by first | rfl | (simp; omega), rfl⟩
    · rw [if_neg (by omega), if_neg (by omega)]
      have q0 : decide (97 ≤ x) = false := by simp; omega
      have q2 : decide (65 ≤ x) = false := by simp; omega
      clear h0 h1 h
      go_enter Tryd.func51, Tryd.ntmps51
      go_wp2_with (go_at_call 38; (with_reducible refine C38.out.mono ?_); rintro e w1 ⟨rfl, rfl⟩)
      go_ret
      exact ⟨rfl, rfl⟩
    · rw [if_neg (by omega), if_neg (by omega)]
      have q0 : decide (97 ≤ x) = false := by simp; omega
      have q2 : decide (65 ≤ x) = true := by simp; omega
      have q3 : decide (x ≤ 70) = false := by simp; omega
      clear h0 h1 h
      go_enter Tryd.func51, Tryd.ntmps51
      go_wp2_with (go_at_call 38; (with_reducible refine C38.out.mono ?_); rintro e w1 ⟨rfl, rfl⟩)
      go_ret
      exact ⟨rfl, rfl⟩
    · rw [if_neg (by omega), if_neg (by omega)]
      have q0 : decide (97 ≤ x) = true := by simp; omega
      have q1 : decide (x ≤ 102) = false := by simp; omega
      have q2 : decide (65 ≤ x) = true := by simp; omega
      have q3 : decide (x ≤ 70) = false := by simp; omega
      clear h0 h1 h
      go_enter Tryd.func51, Tryd.ntmps51
      go_wp2_with (go_at_call 38; (with_reducible refine C38.out.mono ?_); rintro e w1 ⟨rfl, rfl⟩)
      go_ret
      exact ⟨rfl, rfl⟩
set_option maxRecDepth 100000 in
set_option maxHeartbeats 400000 in
theorem among_gen (L : List UInt8) (x : Int) (w : World) (hn : L.length ≤ 1000000) : Calls Tryd.prog 41 #[.int .u8 x, .string ⟨L.toArray⟩] w fun e w' => e = .returned (.bool (L.any fun c => (c.toNat : Int) == x)) ∧ w' = w := by
  have hsz := Lib.size_mk L
  have HSZ := Lib.hid hsz
  obtain ⟨R, hR⟩ : ∃ R, (L.any fun c => (c.toNat : Int) == x) = R := ⟨_, rfl⟩
  rw [hR]
  have HR := Lib.hid hR
  have HI := Lib.hid (run_idx L)
  obtain ⟨n, hnn⟩ : ∃ n, L.length = n := ⟨_, rfl⟩
  have HNN := Lib.hid hnn
  obtain ⟨St, hSt⟩ : ∃ St, (⟨L.toArray⟩ : ByteArray) = St := ⟨_, rfl⟩
  rw [hSt] at HI
  have hs2 : St.size = n := by rw [← hSt, hsz, hnn]
  rw [hSt]
  have hn0 : (n : Int) ≤ 1000000 := by omega
  clear hsz hR hnn hSt hn HSZ
  go_enter Tryd.func41, Tryd.ntmps41
  go_wp2_with fail
  go_loopw [5] (fun iv wr => ∃ i : Nat, (i : Int) ≤ n ∧ iv = .int .i64 i ∧ Hid ((L.drop i).any (fun c => (c.toNat : Int) == x) = R) ∧ wr = w) (fun iv _ => n - (intOf iv).toNat)
  case atStart => exact ⟨0, by omega, rfl, Lib.hid (by simpa using HR.out), rfl⟩
  case round =>
    obtain ⟨i, hi, rfl, HD, rfl⟩ := hrel
    by_cases hlt : (i : Int) < n
    · have hi1 : i < L.length := by rw [HNN.out]; omega
      have hidx := HI.out i hi1
      have hd := HD.out
      rw [List.drop_eq_getElem_cons hi1, List.any_cons] at hd
      generalize (L[i]).toNat = y at *
      obtain ⟨u, hu⟩ : ∃ u : Int, (y : Int) = u := ⟨_, rfl⟩
      rw [hu] at hidx hd
      cases hux : (u == x) with
      | true =>
        have HE : Hid (R = true) := Lib.hid (by rw [← hd, hux]; rfl)
        clear hd hu
        go_wp2_with fail
        go_ret
        exact ⟨by rw [HE.out]; rfl, rfl⟩
      | false =>
        have HE : Hid ((L.drop (i + 1)).any (fun c => (c.toNat : Int) == x) = R) := Lib.hid (by rw [← hd, hux]; rfl)
        clear hd hu
        go_wp2_with fail
        go_roundw
        case rel => exact ⟨i + 1, by omega, by go_num, HE, by first | trivial | rfl⟩
        case measure => simp [intOf]; omega
    · have HE : Hid (R = false) := Lib.hid (by rw [← HD.out, List.drop_eq_nil_of_le (by rw [HNN.out]; omega)]; rfl)
      go_wp2_with fail
      go_ret
      exact ⟨by rw [HE.out]; rfl, rfl⟩
theorem among_any (x : Int) (w : World) : Calls Tryd.prog 41 #[.int .u8 x, .string ⟨#[40, 41, 123, 125, 91, 93, 60, 62, 44, 59, 58, 46, 61, 43, 45, 42, 47, 124, 33, 63, 64]⟩] w fun e w' => e = .returned (.bool (symI x)) ∧ w' = w := among_gen symbols x w (by decide)
set_option maxRecDepth 100000 in
set_option maxHeartbeats 400000 in
theorem lines_any (L : List UInt8) (k : Nat) (w : World) (hk : k ≤ L.length) (hn : L.length ≤ 1000000) : Calls Tryd.prog 42 #[.string ⟨L.toArray⟩, .int .i64 (k : Int)] w fun e w' => e = .returned (.tuple #[.int .i64 ((lcOf L k).1 : Int), .int .i64 ((lcOf L k).2 : Int)]) ∧ w' = w := by
  have HI := Lib.hid (run_idx L)
  have HK := Lib.hid hk
  have hsz := Lib.size_mk L
  obtain ⟨St, hSt⟩ : ∃ St, (⟨L.toArray⟩ : ByteArray) = St := ⟨_, rfl⟩
  rw [hSt] at HI hsz
  have HSZ := Lib.hid hsz
  rw [hSt]
  have hk0 : (k : Int) ≤ 1000000 := by omega
  have HNL := Lib.hid (fun (i : Nat) (hi : i < L.length) => lc_nl (L := L) (i := i) hi)
  have HNO := Lib.hid (fun (i : Nat) (hi : i < L.length) => lc_no (L := L) (i := i) hi)
  have HLE := Lib.hid (fun (i : Nat) => lcOf_le L i)
  have HN := Lib.hid hn
  clear hSt hsz hn hk
  go_enter Tryd.func42, Tryd.ntmps42
  go_wp2_with fail
  go_loopw [6, 7, 8] (fun lv cv iv wr => ∃ i : Nat, (i : Int) ≤ k ∧ iv = .int .i64 i ∧ lv = .int .i64 ((lcOf L i).1 : Int) ∧ cv = .int .i64 ((lcOf L i).2 : Int) ∧ wr = w) (fun _ _ iv _ => k - (intOf iv).toNat)
  case atStart => exact ⟨0, by omega, rfl, rfl, rfl, rfl⟩
  case round =>
    obtain ⟨i, hi, rfl, rfl, rfl, rfl⟩ := hrel
    by_cases hlt : (i : Int) < k
    · have hi1 : i < L.length := by have := HK.out; omega
      have hidx := HI.out i hi1
      have hsz2 : (i : Int) < (St.size : Int) := by rw [HSZ.out]; omega
      obtain ⟨l1, l2, l3⟩ := HLE.out i
      have hb1 : ((lcOf L i).1 : Int) ≤ 2000000 := by have := HN.out; omega
      have hb2 : ((lcOf L i).2 : Int) ≤ 2000000 := by have := HN.out; omega
      have hb3 : (0 : Int) ≤ ((lcOf L i).1 : Int) := by omega
      have hb4 : (0 : Int) ≤ ((lcOf L i).2 : Int) := by omega
      clear l1 l2 l3
      cases hx : ((L[i]).toNat : Int) == 10 with
      | true =>
        have HL := Lib.hid (HNL.out i hi1 hx)
        generalize (L[i]).toNat = y at *
        obtain ⟨u, hu⟩ : ∃ u : Int, (y : Int) = u := ⟨_, rfl⟩
        rw [hu] at hidx hx
        generalize hA : ((lcOf L i).1 : Int) = a at *
        generalize hC : ((lcOf L i).2 : Int) = c at *
        have HAA := Lib.hid (And.intro hA hC)
        clear hu hA hC
        go_wp2_with fail
        go_roundw
        case rel => exact ⟨i + 1, by omega, by go_num, by rw [HL.out, ← HAA.out.1]; go_num, by rw [HL.out]; rfl, by first | trivial | rfl⟩
        case measure => simp [intOf]; omega
      | false =>
        have HL := Lib.hid (HNO.out i hi1 hx)
        generalize (L[i]).toNat = y at *
        obtain ⟨u, hu⟩ : ∃ u : Int, (y : Int) = u := ⟨_, rfl⟩
        rw [hu] at hidx hx
        generalize hA : ((lcOf L i).1 : Int) = a at *
        generalize hC : ((lcOf L i).2 : Int) = c at *
        have HAA := Lib.hid (And.intro hA hC)
        clear hu hA hC
        go_wp2_with fail
        go_roundw
        case rel => exact ⟨i + 1, by omega, by go_num, by rw [HL.out, ← HAA.out.1], by rw [HL.out, ← HAA.out.2]; go_num, by first | trivial | rfl⟩
        case measure => simp [intOf]; omega
    · obtain rfl : i = k := by omega
      go_wp2_with fail
      go_ret2
      exact ⟨rfl, rfl⟩
/-- What the reference's readers of a kind return: the index behind it and that of a wrong byte. -/
def RefR (i : Nat) (t : TR) : Value := match t with
  | .ok _ _ n => .tuple #[.int .i64 ((i + n : Nat) : Int), .int .i64 (-1)]
  | .bad n => .tuple #[.int .i64 0, .int .i64 ((i + n : Nat) : Int)]
def RefN (i : Nat) (t : TR) : Value := match t with
  | .ok _ v n => .tuple #[.int .i64 v, .int .i64 ((i + n : Nat) : Int), .int .i64 (-1)]
  | .bad n => .tuple #[.int .i64 0, .int .i64 0, .int .i64 ((i + n : Nat) : Int)]
set_option maxRecDepth 100000 in
set_option maxHeartbeats 400000 in
theorem rword_any (L : List UInt8) (i : Nat) (w : World) (hi : i ≤ L.length) (hn : L.length ≤ 1000000) : Calls Tryd.prog 37 #[.string ⟨L.toArray⟩, .int .i64 (i : Int)] w fun e w' => e = .returned (RefR i (wordL (L.drop i))) ∧ w' = w := by
  have HI := Lib.hid (run_idx L)
  have hsz := Lib.size_mk L
  obtain ⟨n, hnn⟩ : ∃ n, L.length = n := ⟨_, rfl⟩
  obtain ⟨St, hSt⟩ : ∃ St, (⟨L.toArray⟩ : ByteArray) = St := ⟨_, rfl⟩
  rw [hSt] at HI hsz
  rw [hSt]
  rw [hnn] at hsz
  have HNN := Lib.hid hnn
  have hn0 : (n : Int) ≤ 1000000 := by omega
  obtain ⟨R, hR⟩ : ∃ R, runL worI 32 (L.drop i) = R := ⟨_, rfl⟩
  have hw : wordL (L.drop i) = if headP worI (L.drop (i + R)) = true then .bad R else .ok 1 0 R := by unfold wordL; rw [hR, List.drop_drop]
  obtain ⟨T, hT⟩ : ∃ T, wordL (L.drop i) = T := ⟨_, rfl⟩
  rw [hT]
  have HT : Hid ((if headP worI (L.drop (i + R)) = true then TR.bad R else .ok 1 0 R) = T) := Lib.hid (by rw [← hw, hT])
  have HR := Lib.hid hR
  have HRL := Lib.hid (show R ≤ 32 from hR ▸ (runL_le worI 32 _).2)
  have HII := Lib.hid hi
  clear hw hT hR hSt hnn hn hi
  go_enter Tryd.func37, Tryd.ntmps37
  go_wp2_with fail
  go_loopw [6] (fun jv wr => ∃ (m : Nat), Hid (m ≤ 32 ∧ i + m ≤ n) ∧ jv = .int .i64 ((i + m : Nat) : Int) ∧ Hid (runL worI (32 - m) (L.drop (i + m)) + m = R) ∧ wr = w) (fun jv _ => i + 33 - (intOf jv).toNat)
  case atStart => exact ⟨0, Lib.hid (by have := HII.out; have := HNN.out; omega), rfl, Lib.hid HR.out, rfl⟩
  case round =>
    obtain ⟨m, HM, rfl, HRN, rfl⟩ := hrel
    obtain ⟨hm1, hm2⟩ := HM.out
    obtain ⟨J, hJ⟩ : ∃ J : Int, ((i + m : Nat) : Int) = J := ⟨_, rfl⟩
    obtain ⟨I0, hI0⟩ : ∃ I0 : Int, (i : Int) = I0 := ⟨_, rfl⟩
    have HJI := Lib.hid (And.intro hJ hI0)
    by_cases hlt : i + m < L.length
    · have hj1 := hlt
      have hidx := HI.out (i + m) hj1
      have C50 := Lib.hid (rwordly_any ((L[i + m]).toNat : Int) wr (u8r _).1 (u8r _).2)
      have hh := headP_in (p := worI) hj1
      generalize ((L[i + m]).toNat : Int) = u at *
      rw [hJ] at hidx ⊢
      rw [hI0]
      have q0 : decide (J < (n : Int)) = true := by have := HNN.out; simp; omega
      have hJb : 0 ≤ J ∧ J ≤ 1000000 ∧ 0 ≤ I0 ∧ I0 ≤ 1000000 ∧ I0 ≤ J := by omega
      obtain ⟨j0, j1, j2, j3, j4⟩ := hJb
      cases hw : worI u with
      | true =>
        rw [hw] at C50 hh
        by_cases h32 : m < 32
        · have q1 : decide (J - I0 < 32) = true := by simp; omega
          have HNX : Hid (runL worI (32 - (m + 1)) (L.drop (i + (m + 1))) + (m + 1) = R) := Lib.hid (by
            have e : 32 - m = (32 - (m + 1)) + 1 := by omega
            have := HRN.out
            rw [e, runL_true hh, List.drop_drop] at this
            have e2 : i + m + 1 = i + (m + 1) := by omega
            rw [e2] at this
            omega)
          have HLT := Lib.hid hlt
          clear hh hw hlt hj1 hJ hI0 hm1 hm2
          go_wp2_with (go_at_call 50; (with_reducible refine C50.out.mono ?_); rintro e w1 ⟨rfl, rfl⟩)
          go_roundw
          case rel => exact ⟨m + 1, Lib.hid (by have := HLT.out; have := HNN.out; omega), by have := HJI.out; go_num, HNX, by first | trivial | rfl⟩
          case measure => have := HJI.out; simp [intOf]; omega
        · have hm9 : m = 32 := by omega
          have q1 : decide (J - I0 < 32) = false := by simp; omega
          have HE : Hid (R = m) := Lib.hid (by have h8 := HRN.out; rw [show 32 - m = 0 by omega] at h8; have h9 : 0 + m = R := h8; omega)
          have HH := Lib.hid hh
          clear hh hw hlt hj1 hJ hI0 hm1 hm2 hm9 h32
          go_wp2_with (go_at_call 50; (with_reducible refine C50.out.mono ?_); rintro e w1 ⟨rfl, rfl⟩)
          go_ret2
          refine ⟨?_, rfl⟩
          rw [← HT.out, HE.out, if_pos HH.out]
          simp only [RefR]
          rw [HJI.out.1]
          rfl
      | false =>
        rw [hw] at C50 hh
        have HE : Hid (R = m) := Lib.hid (by have := HRN.out; rw [runL_false hh] at this; omega)
        have HH := Lib.hid hh
        clear hh hw hlt hj1 hJ hI0 hm1 hm2
        go_wp2_with (go_at_call 50; (with_reducible refine C50.out.mono ?_); rintro e w1 ⟨rfl, rfl⟩)
        go_ret2
        refine ⟨?_, rfl⟩
        rw [← HT.out, HE.out, if_neg (by rw [HH.out]; simp)]
        simp only [RefR]
        rw [HJI.out.1]
        rfl
    · have hj : i + m = n := by have := HNN.out; omega
      have hh : headP worI (L.drop (i + m)) = false := headP_out (by omega)
      rw [hJ]
      have q0 : decide (J < (n : Int)) = false := by have := HNN.out; simp; omega
      have HE : Hid (R = m) := Lib.hid (by have := HRN.out; rw [runL_false hh] at this; omega)
      have HH := Lib.hid hh
      clear hh hlt hJ hI0 hm1 hm2 hj
      go_wp2_with fail
      go_ret2
      refine ⟨?_, rfl⟩
      rw [← HT.out, HE.out, if_neg (by rw [HH.out]; simp)]
      simp only [RefR]
      rw [HJI.out.1]
      rfl

end Go.Proofs.YtkihoekldklkhaaDoor
