/- The contract of the reference's crc. -/
import Derived.Test.YtcjmeiklfkiibaaCrcP
import Derived.WalkLawsBesides
namespace Go.Proofs.Ytcjmeiklfkiibaa
open Go.RowKit

set_option maxRecDepth 100000 in
set_option maxHeartbeats 4000000 in
theorem rcrc_any (A : Option Addr) (n c : Nat) (l : List UInt8) (w : World) (hl : l.length = n) (hn : n ≤ 60000) (hb : BS w w.heap.size A l) :
    Calls Try.prog 28 #[.slice A n c] w fun e w' => e = .returned (.int .i64 (divS 65535 l)) ∧ w = w' := by
  obtain ⟨S, hS⟩ : ∃ S, divS 65535 l = S := ⟨_, rfl⟩
  rw [hS]
  have HL := Lib.hid hl
  have HB := Lib.hid hb
  have HS := Lib.hid (show DivIs 65535 l S from hS)
  clear hl hb hS
  go_enter Try.func28, Try.ntmps28
  go_wp2_with fail
  go_loop [3, 4, 5, 6] (fun x i _ _ => ∃ (k ak : Nat), k ≤ n ∧ x = .int .i64 ak ∧ i = .int .i64 k ∧ Hid (ak < 65536) ∧ Hid (DivIs ak (l.drop k) S)) (fun _ i _ _ => n - (intOf i).toNat)
  case atStart => exact ⟨0, 65535, Nat.zero_le _, rfl, rfl, Lib.hid (by omega), HS⟩
  case round =>
    obtain ⟨k, ak, hk, rfl, rfl, HA1, HSK⟩ := hrel
    by_cases hlt : k < n
    · obtain ⟨bl, o, hA, hbB, hc⟩ := HB.out (by rw [HL.out]; omega)
      subst hA
      have hkl : k < l.length := by rw [HL.out]; exact hlt
      have hck := hc k hkl
      have hx2 : (l[k].toNat : Int) < 256 := by have := l[k].toNat_lt; omega
      have hx0 : 0 ≤ (l[k].toNat : Int) := by omega
      have hst : l.drop k = l[k] :: l.drop (k + 1) := List.drop_eq_getElem_cons hkl
      have hs2 : divS ak (l.drop k) = S := HSK.out
      rw [hst, divS_cons] at hs2
      obtain ⟨yn, hyn⟩ : ∃ yn : Nat, l[k].toNat = yn := ⟨_, rfl⟩
      rw [hyn] at hck hx2 hx0 hs2
      obtain ⟨T, hT⟩ : ∃ T, iterS 8 (ak ^^^ (yn * 256)) = T := ⟨_, rfl⟩
      rw [hT] at hs2
      have HT := Lib.hid (show IterIs (8 - 0) (ak ^^^ zB yn 0) T from by unfold IterIs; rw [zB_0 yn (by omega)]; exact hT)
      have HS2 := Lib.hid (show DivIs T (l.drop (k + 1)) S from hs2)
      obtain ⟨y, hx⟩ : ∃ y : Int, (yn : Int) = y := ⟨_, rfl⟩
      rw [hx] at hck hx2 hx0
      have HY := Lib.hid hx
      clear hst hc hT hs2 hyn hx hbB
      go_wp2_with fail
      go_loop [3, 5, 6] (fun x i _ => ∃ (j q : Nat), j ≤ 8 ∧ x = .int .i64 q ∧ i = .int .i64 (7 - (j : Int)) ∧ Hid (q < 65536) ∧ Hid (IterIs (8 - j) (q ^^^ zB yn j) T)) (fun _ i _ => (intOf i + 1).toNat)
      case atStart => exact ⟨0, ak, by omega, rfl, rfl, HA1, HT⟩
      case round =>
        obtain ⟨j, q, hj, rfl, rfl, HAJ, HIJ⟩ := hrel
        have hjs : j = 8 ∨ j = 0 ∨ j = 1 ∨ j = 2 ∨ j = 3 ∨ j = 4 ∨ j = 5 ∨ j = 6 ∨ j = 7 := by omega
        rcases hjs with rfl | rfl | rfl | rfl | rfl | rfl | rfl | rfl | rfl
        · have hfin : q = T := by
            have h := HIJ.out
            unfold IterIs at h
            rw [zB_8, Nat.xor_zero] at h
            exact h
          subst hfin
          clear HIJ HT
          go_wp2_with fail
          refine ⟨⟨k + 1, q, by omega, by simp, by simp, HAJ, HS2⟩, by simp [intOf]; omega⟩
        · have hcs := crc_step q yn 0 HAJ.out (by omega)
          obtain ⟨r, hre⟩ : ∃ r, crcN q (yn / 2 ^ (7 - 0) % 2) = r := ⟨_, rfl⟩
          have hrl : r < 65536 := by rw [← hre]; exact crcN_lt
          rw [hre] at hcs
          have hin : IterIs (8 - (0 + 1)) (r ^^^ zB yn (0 + 1)) T := by
            have h := HIJ.out
            rw [← hcs]; exact h
          have hyn := HY.out
          obtain ⟨zq, hzq⟩ : ∃ z : Int, (q : Int) = z := ⟨_, rfl⟩
          have hq0 : 0 ≤ zq := by omega
          have hq1 : zq < 65536 := by have := HAJ.out; omega
          obtain ⟨ri, hri⟩ : ∃ z : Int, (r : Int) = z := ⟨_, rfl⟩
          have HIN := Lib.hid hin
          have HRL := Lib.hid hrl
          rw [hzq]
          by_cases ht : (zq / 32768 + y / 128 % 2) % 2 = 1
          · have hxr : bits .xor .i64 (2 * zq % 65536) 4129 = ri := by
              have h := i64_xor_nat (2 * q % 65536) 4129 (by omega) (by omega)
              rw [← hri, ← hre, crcN, if_pos (by simp; omega), ← h, ← hzq]
              simp
            have hr0 : 0 ≤ ri := by omega
            have hr1 : ri < 65536 := by omega
            have HRI := Lib.hid hri
            clear hri hre hzq hyn hin hrl hcs
            go_wp2_with fail
            refine ⟨⟨1, r, by omega, by rw [HRI.out], by simp, HRL, HIN⟩, by simp [intOf]⟩
          · have hxr : 2 * zq % 65536 = (r : Int) := by
              rw [← hre, crcN, if_neg (by simp; omega), ← hzq]
              simp
            have HRI := Lib.hid hxr
            have ht0 : (zq / 32768 + y / 128 % 2) % 2 = 0 := by omega
            clear hxr hri hre hzq hyn hin hrl hcs ht
            go_wp2_with fail
            refine ⟨⟨1, r, by omega, by rw [← HRI.out], by simp, HRL, HIN⟩, by simp [intOf]⟩
        · have hcs := crc_step q yn 1 HAJ.out (by omega)
          obtain ⟨r, hre⟩ : ∃ r, crcN q (yn / 2 ^ (7 - 1) % 2) = r := ⟨_, rfl⟩
          have hrl : r < 65536 := by rw [← hre]; exact crcN_lt
          rw [hre] at hcs
          have hin : IterIs (8 - (1 + 1)) (r ^^^ zB yn (1 + 1)) T := by
            have h := HIJ.out
            rw [← hcs]; exact h
          have hyn := HY.out
          obtain ⟨zq, hzq⟩ : ∃ z : Int, (q : Int) = z := ⟨_, rfl⟩
          have hq0 : 0 ≤ zq := by omega
          have hq1 : zq < 65536 := by have := HAJ.out; omega
          obtain ⟨ri, hri⟩ : ∃ z : Int, (r : Int) = z := ⟨_, rfl⟩
          have HIN := Lib.hid hin
          have HRL := Lib.hid hrl
          rw [hzq]
          by_cases ht : (zq / 32768 + y / 64 % 2) % 2 = 1
          · have hxr : bits .xor .i64 (2 * zq % 65536) 4129 = ri := by
              have h := i64_xor_nat (2 * q % 65536) 4129 (by omega) (by omega)
              rw [← hri, ← hre, crcN, if_pos (by simp; omega), ← h, ← hzq]
              simp
            have hr0 : 0 ≤ ri := by omega
            have hr1 : ri < 65536 := by omega
            have HRI := Lib.hid hri
            clear hri hre hzq hyn hin hrl hcs
            go_wp2_with fail
            refine ⟨⟨2, r, by omega, by rw [HRI.out], by simp, HRL, HIN⟩, by simp [intOf]⟩
          · have hxr : 2 * zq % 65536 = (r : Int) := by
              rw [← hre, crcN, if_neg (by simp; omega), ← hzq]
              simp
            have HRI := Lib.hid hxr
            have ht0 : (zq / 32768 + y / 64 % 2) % 2 = 0 := by omega
            clear hxr hri hre hzq hyn hin hrl hcs ht
            go_wp2_with fail
            refine ⟨⟨2, r, by omega, by rw [← HRI.out], by simp, HRL, HIN⟩, by simp [intOf]⟩
        · have hcs := crc_step q yn 2 HAJ.out (by omega)
          obtain ⟨r, hre⟩ : ∃ r, crcN q (yn / 2 ^ (7 - 2) % 2) = r := ⟨_, rfl⟩
          have hrl : r < 65536 := by rw [← hre]; exact crcN_lt
          rw [hre] at hcs
          have hin : IterIs (8 - (2 + 1)) (r ^^^ zB yn (2 + 1)) T := by
            have h := HIJ.out
            rw [← hcs]; exact h
          have hyn := HY.out
          obtain ⟨zq, hzq⟩ : ∃ z : Int, (q : Int) = z := ⟨_, rfl⟩
          have hq0 : 0 ≤ zq := by omega
          have hq1 : zq < 65536 := by have := HAJ.out; omega
          obtain ⟨ri, hri⟩ : ∃ z : Int, (r : Int) = z := ⟨_, rfl⟩
          have HIN := Lib.hid hin
          have HRL := Lib.hid hrl
          rw [hzq]
          by_cases ht : (zq / 32768 + y / 32 % 2) % 2 = 1
          · have hxr : bits .xor .i64 (2 * zq % 65536) 4129 = ri := by
              have h := i64_xor_nat (2 * q % 65536) 4129 (by omega) (by omega)
              rw [← hri, ← hre, crcN, if_pos (by simp; omega), ← h, ← hzq]
              simp
            have hr0 : 0 ≤ ri := by omega
            have hr1 : ri < 65536 := by omega
            have HRI := Lib.hid hri
            clear hri hre hzq hyn hin hrl hcs
            go_wp2_with fail
            refine ⟨⟨3, r, by omega, by rw [HRI.out], by simp, HRL, HIN⟩, by simp [intOf]⟩
          · have hxr : 2 * zq % 65536 = (r : Int) := by
              rw [← hre, crcN, if_neg (by simp; omega), ← hzq]
              simp
            have HRI := Lib.hid hxr
            have ht0 : (zq / 32768 + y / 32 % 2) % 2 = 0 := by omega
            clear hxr hri hre hzq hyn hin hrl hcs ht
            go_wp2_with fail
            refine ⟨⟨3, r, by omega, by rw [← HRI.out], by simp, HRL, HIN⟩, by simp [intOf]⟩
        · have hcs := crc_step q yn 3 HAJ.out (by omega)
          obtain ⟨r, hre⟩ : ∃ r, crcN q (yn / 2 ^ (7 - 3) % 2) = r := ⟨_, rfl⟩
          have hrl : r < 65536 := by rw [← hre]; exact crcN_lt
          rw [hre] at hcs
          have hin : IterIs (8 - (3 + 1)) (r ^^^ zB yn (3 + 1)) T := by
            have h := HIJ.out
            rw [← hcs]; exact h
          have hyn := HY.out
          obtain ⟨zq, hzq⟩ : ∃ z : Int, (q : Int) = z := ⟨_, rfl⟩
          have hq0 : 0 ≤ zq := by omega
          have hq1 : zq < 65536 := by have := HAJ.out; omega
          obtain ⟨ri, hri⟩ : ∃ z : Int, (r : Int) = z := ⟨_, rfl⟩
          have HIN := Lib.hid hin
          have HRL := Lib.hid hrl
          rw [hzq]
          by_cases ht : (zq / 32768 + y / 16 % 2) % 2 = 1
          · have hxr : bits .xor .i64 (2 * zq % 65536) 4129 = ri := by
              have h := i64_xor_nat (2 * q % 65536) 4129 (by omega) (by omega)
              rw [← hri, ← hre, crcN, if_pos (by simp; omega), ← h, ← hzq]
              simp
            have hr0 : 0 ≤ ri := by omega
            have hr1 : ri < 65536 := by omega
            have HRI := Lib.hid hri
            clear hri hre hzq hyn hin hrl hcs
            go_wp2_with fail
            refine ⟨⟨4, r, by omega, by rw [HRI.out], by simp, HRL, HIN⟩, by simp [intOf]⟩
          · have hxr : 2 * zq % 65536 = (r : Int) := by
              rw [← hre, crcN, if_neg (by simp; omega), ← hzq]
              simp
            have HRI := Lib.hid hxr
            have ht0 : (zq / 32768 + y / 16 % 2) % 2 = 0 := by omega
            clear hxr hri hre hzq hyn hin hrl hcs ht
            go_wp2_with fail
            refine ⟨⟨4, r, by omega, by rw [← HRI.out], by simp, HRL, HIN⟩, by simp [intOf]⟩
        · have hcs := crc_step q yn 4 HAJ.out (by omega)
          obtain ⟨r, hre⟩ : ∃ r, crcN q (yn / 2 ^ (7 - 4) % 2) = r := ⟨_, rfl⟩
          have hrl : r < 65536 := by rw [← hre]; exact crcN_lt
          rw [hre] at hcs
          have hin : IterIs (8 - (4 + 1)) (r ^^^ zB yn (4 + 1)) T := by
            have h := HIJ.out
            rw [← hcs]; exact h
          have hyn := HY.out
          obtain ⟨zq, hzq⟩ : ∃ z : Int, (q : Int) = z := ⟨_, rfl⟩
          have hq0 : 0 ≤ zq := by omega
          have hq1 : zq < 65536 := by have := HAJ.out; omega
          obtain ⟨ri, hri⟩ : ∃ z : Int, (r : Int) = z := ⟨_, rfl⟩
          have HIN := Lib.hid hin
          have HRL := Lib.hid hrl
          rw [hzq]
          by_cases ht : (zq / 32768 + y / 8 % 2) % 2 = 1
          · have hxr : bits .xor .i64 (2 * zq % 65536) 4129 = ri := by
              have h := i64_xor_nat (2 * q % 65536) 4129 (by omega) (by omega)
              rw [← hri, ← hre, crcN, if_pos (by simp; omega), ← h, ← hzq]
              simp
            have hr0 : 0 ≤ ri := by omega
            have hr1 : ri < 65536 := by omega
            have HRI := Lib.hid hri
            clear hri hre hzq hyn hin hrl hcs
            go_wp2_with fail
            refine ⟨⟨5, r, by omega, by rw [HRI.out], by simp, HRL, HIN⟩, by simp [intOf]⟩
          · have hxr : 2 * zq % 65536 = (r : Int) := by
              rw [← hre, crcN, if_neg (by simp; omega), ← hzq]
              simp
            have HRI := Lib.hid hxr
            have ht0 : (zq / 32768 + y / 8 % 2) % 2 = 0 := by omega
            clear hxr hri hre hzq hyn hin hrl hcs ht
            go_wp2_with fail
            refine ⟨⟨5, r, by omega, by rw [← HRI.out], by simp, HRL, HIN⟩, by simp [intOf]⟩
        · have hcs := crc_step q yn 5 HAJ.out (by omega)
          obtain ⟨r, hre⟩ : ∃ r, crcN q (yn / 2 ^ (7 - 5) % 2) = r := ⟨_, rfl⟩
          have hrl : r < 65536 := by rw [← hre]; exact crcN_lt
          rw [hre] at hcs
          have hin : IterIs (8 - (5 + 1)) (r ^^^ zB yn (5 + 1)) T := by
            have h := HIJ.out
            rw [← hcs]; exact h
          have hyn := HY.out
          obtain ⟨zq, hzq⟩ : ∃ z : Int, (q : Int) = z := ⟨_, rfl⟩
          have hq0 : 0 ≤ zq := by omega
          have hq1 : zq < 65536 := by have := HAJ.out; omega
          obtain ⟨ri, hri⟩ : ∃ z : Int, (r : Int) = z := ⟨_, rfl⟩
          have HIN := Lib.hid hin
          have HRL := Lib.hid hrl
          rw [hzq]
          by_cases ht : (zq / 32768 + y / 4 % 2) % 2 = 1
          · have hxr : bits .xor .i64 (2 * zq % 65536) 4129 = ri := by
              have h := i64_xor_nat (2 * q % 65536) 4129 (by omega) (by omega)
              rw [← hri, ← hre, crcN, if_pos (by simp; omega), ← h, ← hzq]
              simp
            have hr0 : 0 ≤ ri := by omega
            have hr1 : ri < 65536 := by omega
            have HRI := Lib.hid hri
            clear hri hre hzq hyn hin hrl hcs
            go_wp2_with fail
            refine ⟨⟨6, r, by omega, by rw [HRI.out], by simp, HRL, HIN⟩, by simp [intOf]⟩
          · have hxr : 2 * zq % 65536 = (r : Int) := by
              rw [← hre, crcN, if_neg (by simp; omega), ← hzq]
              simp
            have HRI := Lib.hid hxr
            have ht0 : (zq / 32768 + y / 4 % 2) % 2 = 0 := by omega
            clear hxr hri hre hzq hyn hin hrl hcs ht
            go_wp2_with fail
            refine ⟨⟨6, r, by omega, by rw [← HRI.out], by simp, HRL, HIN⟩, by simp [intOf]⟩
        · have hcs := crc_step q yn 6 HAJ.out (by omega)
          obtain ⟨r, hre⟩ : ∃ r, crcN q (yn / 2 ^ (7 - 6) % 2) = r := ⟨_, rfl⟩
          have hrl : r < 65536 := by rw [← hre]; exact crcN_lt
          rw [hre] at hcs
          have hin : IterIs (8 - (6 + 1)) (r ^^^ zB yn (6 + 1)) T := by
            have h := HIJ.out
            rw [← hcs]; exact h
          have hyn := HY.out
          obtain ⟨zq, hzq⟩ : ∃ z : Int, (q : Int) = z := ⟨_, rfl⟩
          have hq0 : 0 ≤ zq := by omega
          have hq1 : zq < 65536 := by have := HAJ.out; omega
          obtain ⟨ri, hri⟩ : ∃ z : Int, (r : Int) = z := ⟨_, rfl⟩
          have HIN := Lib.hid hin
          have HRL := Lib.hid hrl
          rw [hzq]
          by_cases ht : (zq / 32768 + y / 2 % 2) % 2 = 1
          · have hxr : bits .xor .i64 (2 * zq % 65536) 4129 = ri := by
              have h := i64_xor_nat (2 * q % 65536) 4129 (by omega) (by omega)
              rw [← hri, ← hre, crcN, if_pos (by simp; omega), ← h, ← hzq]
              simp
            have hr0 : 0 ≤ ri := by omega
            have hr1 : ri < 65536 := by omega
            have HRI := Lib.hid hri
            clear hri hre hzq hyn hin hrl hcs
            go_wp2_with fail
            refine ⟨⟨7, r, by omega, by rw [HRI.out], by simp, HRL, HIN⟩, by simp [intOf]⟩
          · have hxr : 2 * zq % 65536 = (r : Int) := by
              rw [← hre, crcN, if_neg (by simp; omega), ← hzq]
              simp
            have HRI := Lib.hid hxr
            have ht0 : (zq / 32768 + y / 2 % 2) % 2 = 0 := by omega
            clear hxr hri hre hzq hyn hin hrl hcs ht
            go_wp2_with fail
            refine ⟨⟨7, r, by omega, by rw [← HRI.out], by simp, HRL, HIN⟩, by simp [intOf]⟩
        · have hcs := crc_step q yn 7 HAJ.out (by omega)
          obtain ⟨r, hre⟩ : ∃ r, crcN q (yn / 2 ^ (7 - 7) % 2) = r := ⟨_, rfl⟩
          have hrl : r < 65536 := by rw [← hre]; exact crcN_lt
          rw [hre] at hcs
          have hin : IterIs (8 - (7 + 1)) (r ^^^ zB yn (7 + 1)) T := by
            have h := HIJ.out
            rw [← hcs]; exact h
          have hyn := HY.out
          obtain ⟨zq, hzq⟩ : ∃ z : Int, (q : Int) = z := ⟨_, rfl⟩
          have hq0 : 0 ≤ zq := by omega
          have hq1 : zq < 65536 := by have := HAJ.out; omega
          obtain ⟨ri, hri⟩ : ∃ z : Int, (r : Int) = z := ⟨_, rfl⟩
          have HIN := Lib.hid hin
          have HRL := Lib.hid hrl
          rw [hzq]
          by_cases ht : (zq / 32768 + y % 2) % 2 = 1
          · have hxr : bits .xor .i64 (2 * zq % 65536) 4129 = ri := by
              have h := i64_xor_nat (2 * q % 65536) 4129 (by omega) (by omega)
              rw [← hri, ← hre, crcN, if_pos (by simp; omega), ← h, ← hzq]
              simp
            have hr0 : 0 ≤ ri := by omega
            have hr1 : ri < 65536 := by omega
            have HRI := Lib.hid hri
            clear hri hre hzq hyn hin hrl hcs
            go_wp2_with fail
            refine ⟨⟨8, r, by omega, by rw [HRI.out], by simp, HRL, HIN⟩, by simp [intOf]⟩
          · have hxr : 2 * zq % 65536 = (r : Int) := by
              rw [← hre, crcN, if_neg (by simp; omega), ← hzq]
              simp
            have HRI := Lib.hid hxr
            have ht0 : (zq / 32768 + y % 2) % 2 = 0 := by omega
            clear hxr hri hre hzq hyn hin hrl hcs ht
            go_wp2_with fail
            refine ⟨⟨8, r, by omega, by rw [← HRI.out], by simp, HRL, HIN⟩, by simp [intOf]⟩
    · obtain rfl : k = n := by omega
      have hs : ak = S := by
        have hs : divS ak (l.drop k) = S := HSK.out
        rw [List.drop_of_length_le (by rw [HL.out]; omega), divS_nil] at hs
        exact hs
      subst hs
      clear HSK HS
      go_wp2_with fail
      go_ret
      exact ⟨rfl, rfl⟩
end Go.Proofs.Ytcjmeiklfkiibaa
