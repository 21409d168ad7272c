/- The CRC bit by bit and byte by byte: the plain law. No program. The sum in ones' complement: the plain law. No program. Contracts of the reference's Bits, adler and ones. The contract of the reference's ones. The contract of the reference's crc. The contract of the reference's Sum. -/
import Derived.Test.YtibkhjpjneoabaaCkDiv
import Derived.Test.YtibkhjpjneoabaaCkChk
import Derived.WalkLawsBesides
namespace Go.Proofs.Ytibkhjpjneoabaa.Ck

/-- One bit of the reference's CRC. -/
def crcN (r b : Nat) : Nat := if (r / 32768 + b) % 2 = 1 then (2 * r % 65536) ^^^ 4129 else 2 * r % 65536
/-- The byte's bits that are left, at the top. -/
def zB (y j : Nat) : Nat := y * 2 ^ (8 + j) % 65536

theorem two_xor (a b : Nat) : (a ^^^ b) * 2 % 65536 = (2 * a % 65536) ^^^ (2 * b % 65536) := by
  have h1 : (a ^^^ b) * 2 = (2 * a) ^^^ (2 * b) := by
    have h := Nat.shiftLeft_xor_distrib (a := a) (b := b) (i := 1)
    simp only [Nat.shiftLeft_eq, Nat.pow_one] at h
    rw [h, Nat.mul_comm a, Nat.mul_comm b]
  rw [h1]
  exact Nat.xor_mod_two_pow (a := 2 * a) (b := 2 * b) (n := 16)
theorem top_xor (a b : Nat) (ha : a < 65536) (hb : b < 65536) : 65536 ≤ (a ^^^ b) * 2 ↔ (a / 32768 + b / 32768) % 2 = 1 := by
  have h := Nat.xor_div_two_pow (a := a) (b := b) (n := 15)
  simp only [show (2 : Nat) ^ 15 = 32768 from rfl] at h
  have h1 : a / 32768 = 0 ∨ a / 32768 = 1 := by omega
  have h2 : b / 32768 = 0 ∨ b / 32768 = 1 := by omega
  rcases h1 with h1 | h1 <;> rcases h2 with h2 | h2 <;> rw [h1, h2] at h ⊢ <;> simp at h ⊢ <;> omega
theorem stepB_xor (r z : Nat) (hr : r < 65536) (hz : z < 65536) : stepB (r ^^^ z) = crcN r (z / 32768) ^^^ (2 * z % 65536) := by
  unfold stepB crcN
  rw [two_xor]
  by_cases h : (r / 32768 + z / 32768) % 2 = 1
  · rw [if_pos ((top_xor r z hr hz).2 h), if_pos h, Nat.xor_assoc, Nat.xor_assoc, Nat.xor_comm (2 * z % 65536)]
  · rw [if_neg (fun hh => h ((top_xor r z hr hz).1 hh)), if_neg h]
    have h2 : ¬ 65536 ≤ (r ^^^ z) * 2 := fun hh => h ((top_xor r z hr hz).1 hh)
    rw [← two_xor, Nat.mod_eq_of_lt (by omega)]
theorem crcN_lt {r b : Nat} : crcN r b < 65536 := by
  unfold crcN
  split
  · exact Nat.xor_lt_two_pow (n := 16) (by omega) (by omega)
  · omega
theorem zB_step (y j : Nat) : 2 * zB y j % 65536 = zB y (j + 1) := by
  unfold zB
  rw [show 8 + (j + 1) = (8 + j) + 1 by omega, Nat.pow_succ, ← Nat.mul_assoc]
  omega
theorem zB_top (y j : Nat) (hj : j < 8) : zB y j / 32768 = y / 2 ^ (7 - j) % 2 := by
  unfold zB
  have h : j = 0 ∨ j = 1 ∨ j = 2 ∨ j = 3 ∨ j = 4 ∨ j = 5 ∨ j = 6 ∨ j = 7 := by omega
  rcases h with rfl | rfl | rfl | rfl | rfl | rfl | rfl | rfl <;> simp <;> omega
/-- One bit of both. -/
theorem crc_step (r y j : Nat) (hr : r < 65536) (hj : j < 8) : stepB (r ^^^ zB y j) = crcN r (y / 2 ^ (7 - j) % 2) ^^^ zB y (j + 1) := by
  rw [stepB_xor r (zB y j) hr (Nat.mod_lt _ (by omega)), zB_step, zB_top y j hj]
theorem zB_0 (y : Nat) (h : y < 256) : zB y 0 = y * 256 := by unfold zB; simp; omega
theorem zB_8 (y : Nat) : zB y 8 = 0 := by unfold zB; simp
end Go.Proofs.Ytibkhjpjneoabaa.Ck

namespace Go.Proofs.Ytibkhjpjneoabaa.Ck

/-- The sum of the bytes' words; c bytes stand before. -/
def totS : Int → List UInt8 → Int
  | _, [] => 0
  | c, x :: l => (if c % 2 = 0 then (x.toNat : Int) * 256 else (x.toNat : Int)) + totS (c + 1) l
/-- A sum, its carries folded in. -/
def fT (t : Int) : Int := if t ≤ 0 then 0 else (t - 1) % 65535 + 1

theorem totS_range (l : List UInt8) : ∀ c : Int, 0 ≤ totS c l ∧ totS c l ≤ 65280 * l.length := by
  induction l with
  | nil => intro c; exact ⟨by simp [totS], by simp [totS]⟩
  | cons x l ih =>
    intro c
    have h := ih (c + 1)
    have hx : (x.toNat : Int) < 256 := by have := x.toNat_lt; omega
    have hx0 : 0 ≤ (x.toNat : Int) := by omega
    simp only [totS, List.length_cons]
    split <;> omega
theorem fT_same {x y : Int} (hx : 0 ≤ x) (hy : 0 ≤ y) (h : x % 65535 = y % 65535) (h0 : 0 < x ↔ 0 < y) : fT x = fT y := by
  unfold fT
  split <;> split <;> omega
theorem fT_low {x : Int} (h0 : 0 ≤ x) (h1 : x ≤ 65535) : fT x = x := by
  unfold fT
  split <;> omega
theorem wrdS_eq (l : List UInt8) : ∀ (c a : Int), 0 ≤ a → a ≤ 65535 → wrdS c a l = fT (a + totS c l) := by
  induction l with
  | nil => intro c a h1 h2; rw [wrdS, totS, Int.add_zero, fT_low h1 h2]
  | cons x l ih =>
    intro c a h1 h2
    have hx : (x.toNat : Int) < 256 := by have := x.toNat_lt; omega
    have hx0 : 0 ≤ (x.toNat : Int) := by omega
    have hr := totS_range l (c + 1)
    rw [wrdS, totS]
    generalize hv : (if c % 2 = 0 then (x.toNat : Int) * 256 else (x.toNat : Int)) = v
    have hv0 : 0 ≤ v ∧ v ≤ 65280 := by rw [← hv]; split <;> omega
    rw [ih _ _ (by omega) (by omega)]
    exact fT_same (by omega) (by omega) (by omega) (by omega)
end Go.Proofs.Ytibkhjpjneoabaa.Ck

namespace Go.Proofs.Ytibkhjpjneoabaa.Ck
open Go.RowKit

def bitsS (k : Int) : Int := if k = 1 ∨ k = 2 then 16 else if k = 3 then 32 else 0
def noS (k : Int) : Int := if 1 ≤ k ∧ k ≤ 3 then 0 else 2

set_option maxRecDepth 100000 in
theorem rbits_any (k : Int) (w : World) : Calls Try.prog 65 #[.int .i64 k] w fun e w' => e = .returned (.tuple #[.int .i64 (bitsS k), .int .i64 (noS k)]) ∧ w = w' := by
  by_cases h1 : k = 1
  · subst h1
    go_enter Try.func65, Try.ntmps65
    go_wp2
    go_ret2
    exact ⟨rfl, rfl⟩
  by_cases h2 : k = 2
  · subst h2
    go_enter Try.func65, Try.ntmps65
    go_wp2
    go_ret2
    exact ⟨rfl, rfl⟩
  by_cases h3 : k = 3
  · subst h3
    go_enter Try.func65, Try.ntmps65
    go_wp2
    go_ret2
    exact ⟨rfl, rfl⟩
  have hb : bitsS k = 0 := by unfold bitsS; rw [if_neg (by omega), if_neg (by omega)]
  have hc : noS k = 2 := by unfold noS; rw [if_neg (by omega)]
  rw [hb, hc]
  have d1 : (k == 1) = false := by simp [h1]
  have d2 : (k == 2) = false := by simp [h2]
  have d3 : (k == 3) = false := by simp [h3]
  clear h1 h2 h3 hb hc
  go_enter Try.func65, Try.ntmps65
  go_wp2
  go_ret2
  exact ⟨rfl, rfl⟩

set_option maxRecDepth 100000 in
set_option maxHeartbeats 1000000 in
theorem radl_any (A : Option Addr) (n c : Nat) (l : List UInt8) (w : World) (hl : l.length = n) (hn : n ≤ 60000) (hb : BS w w.heap.size A l) :
    Calls Try.prog 64 #[.slice A n c] w fun e w' => e = .returned (.int .i64 (65536 * (adlS 1 0 l).2 + (adlS 1 0 l).1)) ∧ w = w' := by
  obtain ⟨S, hS⟩ : ∃ S, adlS 1 0 l = S := ⟨_, rfl⟩
  rw [hS]
  have HL := Lib.hid hl
  have HB := Lib.hid hb
  have HS := Lib.hid hS
  clear hl hb hS
  go_enter Try.func64, Try.ntmps64
  go_wp2_with fail
  go_loop [3, 4, 5] (fun x y i => ∃ (k : Nat) (ak bk : Int), k ≤ n ∧ x = .int .i64 ak ∧ y = .int .i64 bk ∧ i = .int .i64 k ∧ 0 ≤ ak ∧ ak < 65521 ∧ 0 ≤ bk ∧ bk < 65521 ∧ Hid (adlS ak bk (l.drop k) = S)) (fun _ _ i => n - (intOf i).toNat)
  case atStart => exact ⟨0, 1, 0, Nat.zero_le _, rfl, rfl, rfl, by omega, by omega, by omega, by omega, HS⟩
  case round =>
    obtain ⟨k, ak, bk, hk, rfl, rfl, rfl, h1, h2, h3, h4, HSK⟩ := hrel
    by_cases hlt : k < n
    · obtain ⟨bl, o, hA, hbB, hc⟩ := HB.out (by rw [HL.out]; omega)
      subst hA
      have hkl : k < l.length := by rw [HL.out]; exact hlt
      have hck := hc k hkl
      have hx2 : (l[k].toNat : Int) < 256 := by have := l[k].toNat_lt; omega
      have hx0 : 0 ≤ (l[k].toNat : Int) := by omega
      have hst : l.drop k = l[k] :: l.drop (k + 1) := List.drop_eq_getElem_cons hkl
      have hs2 := HSK.out
      rw [hst] at hs2
      simp only [adlS] at hs2
      clear hst hc
      obtain ⟨y, hx⟩ : ∃ y : Int, (l[k].toNat : Int) = y := ⟨_, rfl⟩
      rw [hx] at hck hx2 hx0 hs2
      have HS2 := Lib.hid hs2
      clear hx hs2 hbB
      go_wp2_with fail
      refine ⟨⟨k + 1, (ak + y) % 65521, (bk + (ak + y)) % 65521, by omega, by simp, by simp, by simp, by omega, by omega, by omega, by omega, HS2⟩, by simp [intOf]; omega⟩
    · obtain rfl : k = n := by omega
      have hs := HSK.out
      rw [List.drop_of_length_le (by rw [HL.out]; omega)] at hs
      simp only [adlS] at hs
      subst hs
      go_wp2_with fail
      go_ret
      exact ⟨rfl, rfl⟩
end Go.Proofs.Ytibkhjpjneoabaa.Ck

namespace Go.Proofs.Ytibkhjpjneoabaa.Ck
open Go.RowKit

def SumIs (s c : Int) (l : List UInt8) (T : Int) : Prop := s + totS c l = T
def FoldIs (s T : Int) : Prop := s % 65535 = T % 65535 ∧ (0 < s ↔ 0 < T)

set_option maxRecDepth 100000 in
set_option maxHeartbeats 1000000 in
theorem rone_any (A : Option Addr) (n c : Nat) (l : List UInt8) (w : World) (hl : l.length = n) (hn : n ≤ 60000) (hb : BS w w.heap.size A l) :
    Calls Try.prog 62 #[.slice A n c] w fun e w' => e = .returned (.int .i64 (65535 - wrdS 0 0 l)) ∧ w = w' := by
  have hT : ∃ T, totS 0 l = T := ⟨_, rfl⟩
  obtain ⟨T, hT⟩ := hT
  have hw : wrdS 0 0 l = fT T := by rw [wrdS_eq l 0 0 (by omega) (by omega), Int.zero_add, hT]
  rw [hw]
  have hr := totS_range l 0
  rw [hT, hl] at hr
  have HL := Lib.hid hl
  have HB := Lib.hid hb
  have HS := Lib.hid (show SumIs 0 (0 : Nat) l T from by unfold SumIs; rw [Int.zero_add]; exact hT)
  have HR := Lib.hid hr
  have HTT := Lib.hid (fun (s : Int) (h1 : 0 ≤ s) (h2 : s ≤ 65535) (hf : FoldIs s T) (h3 : 0 ≤ T) => show fT T = s from (fT_same h3 h1 hf.1.symm hf.2.symm).trans (fT_low h1 h2))
  clear hl hb hT hw hr
  go_enter Try.func62, Try.ntmps62
  go_wp2_with fail
  go_loop [3, 4] (fun x i => ∃ (k : Nat) (s : Int), k ≤ n ∧ x = .int .i64 s ∧ i = .int .i64 k ∧ 0 ≤ s ∧ s ≤ 65280 * k ∧ Hid (SumIs s k (l.drop k) T)) (fun _ i => n - (intOf i).toNat)
  case atStart => exact ⟨0, 0, Nat.zero_le _, rfl, rfl, by omega, by omega, HS⟩
  case round =>
    obtain ⟨k, s, hk, rfl, rfl, h1, h2, HSK⟩ := hrel
    by_cases hlt : k < n
    · obtain ⟨bl, o, hA, hbB, hc⟩ := HB.out (by rw [HL.out]; omega)
      subst hA
      have hkl : k < l.length := by rw [HL.out]; exact hlt
      have hck := hc k hkl
      have hx2 : (l[k].toNat : Int) < 256 := by have := l[k].toNat_lt; omega
      have hx0 : 0 ≤ (l[k].toNat : Int) := by omega
      have hst : l.drop k = l[k] :: l.drop (k + 1) := List.drop_eq_getElem_cons hkl
      have hs2 := HSK.out
      unfold SumIs at hs2
      rw [hst] at hs2
      simp only [totS] at hs2
      have hk1 : (k : Int) + 1 = ((k + 1 : Nat) : Int) := by omega
      rw [hk1] at hs2
      clear hst hc hk1
      obtain ⟨y, hx⟩ : ∃ y : Int, (l[k].toNat : Int) = y := ⟨_, rfl⟩
      rw [hx] at hck hx2 hx0 hs2
      clear hx hbB
      by_cases hp : (k : Int) % 2 = 0
      · rw [if_pos hp] at hs2
        have HS2 := Lib.hid (show SumIs (s + 256 * y) ((k + 1 : Nat) : Int) (l.drop (k + 1)) T by unfold SumIs; omega)
        clear hs2
        go_wp2_with fail
        refine ⟨⟨k + 1, s + 256 * y, by omega, by simp, by simp, by omega, by omega, HS2⟩, by simp [intOf]; omega⟩
      · rw [if_neg hp] at hs2
        have HS2 := Lib.hid (show SumIs (s + y) ((k + 1 : Nat) : Int) (l.drop (k + 1)) T by unfold SumIs; omega)
        clear hs2
        go_wp2_with fail
        refine ⟨⟨k + 1, s + y, by omega, by simp, by simp, by omega, by omega, HS2⟩, by simp [intOf]; omega⟩
    · obtain rfl : k = n := by omega
      have hs : s = T := by
        have := HSK.out
        unfold SumIs at this
        rw [List.drop_of_length_le (by rw [HL.out]; omega)] at this
        simp only [totS] at this
        omega
      subst hs
      clear HSK HS
      go_wp2_with fail
      go_loop [3] (fun x => ∃ (s' : Int), x = .int .i64 s' ∧ 0 ≤ s' ∧ s' ≤ 65280 * 60000 ∧ Hid (FoldIs s' s)) (fun x => (intOf x).toNat)
      case atStart => exact ⟨s, rfl, h1, by omega, Lib.hid ⟨rfl, Iff.rfl⟩⟩
      case round =>
        obtain ⟨s', rfl, g1, g2, HF⟩ := hrel
        by_cases hbig : s' ≤ 65535
        · have hE := Lib.hid (HTT.out s' g1 hbig HF.out h1)
          go_wp2_with fail
          go_ret
          exact ⟨by rw [hE.out]; rfl, rfl⟩
        · have hbig2 : 65535 < s' := by omega
          have HF2 := Lib.hid (show FoldIs (s' % 65536 + s' / 65536) s from by have := HF.out; unfold FoldIs at this ⊢; omega)
          clear hbig
          go_wp2_with fail
          refine ⟨⟨s' % 65536 + s' / 65536, by simp, by omega, by omega, HF2⟩, by simp [intOf]; omega⟩
end Go.Proofs.Ytibkhjpjneoabaa.Ck

namespace Go.Proofs.Ytibkhjpjneoabaa.Ck
open Go.RowKit

set_option maxRecDepth 100000 in
set_option maxHeartbeats 4000000 in
theorem rcrc_any (A : Option Addr) (n c : Nat) (l : List UInt8) (w : World) (hl : l.length = n) (hn : n ≤ 60000) (hb : BS w w.heap.size A l) :
    Calls Try.prog 63 #[.slice A n c] w fun e w' => e = .returned (.int .i64 (divS 65535 l)) ∧ w = w' := by
  obtain ⟨S, hS⟩ : ∃ S, divS 65535 l = S := ⟨_, rfl⟩
  rw [hS]
  have HL := Lib.hid hl
  have HB := Lib.hid hb
  have HS := Lib.hid (show DivIs 65535 l S from hS)
  clear hl hb hS
  go_enter Try.func63, Try.ntmps63
  go_wp2_with fail
  go_loop [3, 4, 5, 6] (fun x i _ _ => ∃ (k ak : Nat), k ≤ n ∧ x = .int .i64 ak ∧ i = .int .i64 k ∧ Hid (ak < 65536) ∧ Hid (DivIs ak (l.drop k) S)) (fun _ i _ _ => n - (intOf i).toNat)
  case atStart => exact ⟨0, 65535, Nat.zero_le _, rfl, rfl, Lib.hid (by omega), HS⟩
  case round =>
    obtain ⟨k, ak, hk, rfl, rfl, HA1, HSK⟩ := hrel
    by_cases hlt : k < n
    · obtain ⟨bl, o, hA, hbB, hc⟩ := HB.out (by rw [HL.out]; omega)
      subst hA
      have hkl : k < l.length := by rw [HL.out]; exact hlt
      have hck := hc k hkl
      have hx2 : (l[k].toNat : Int) < 256 := by have := l[k].toNat_lt; omega
      have hx0 : 0 ≤ (l[k].toNat : Int) := by omega
      have hst : l.drop k = l[k] :: l.drop (k + 1) := List.drop_eq_getElem_cons hkl
      have hs2 : divS ak (l.drop k) = S := HSK.out
      rw [hst, divS_cons] at hs2
      obtain ⟨yn, hyn⟩ : ∃ yn : Nat, l[k].toNat = yn := ⟨_, rfl⟩
      rw [hyn] at hck hx2 hx0 hs2
      obtain ⟨T, hT⟩ : ∃ T, iterS 8 (ak ^^^ (yn * 256)) = T := ⟨_, rfl⟩
      rw [hT] at hs2
      have HT := Lib.hid (show IterIs (8 - 0) (ak ^^^ zB yn 0) T from by unfold IterIs; rw [zB_0 yn (by omega)]; exact hT)
      have HS2 := Lib.hid (show DivIs T (l.drop (k + 1)) S from hs2)
      obtain ⟨y, hx⟩ : ∃ y : Int, (yn : Int) = y := ⟨_, rfl⟩
      rw [hx] at hck hx2 hx0
      have HY := Lib.hid hx
      clear hst hc hT hs2 hyn hx hbB
      go_wp2_with fail
      go_loop [3, 5, 6] (fun x i _ => ∃ (j q : Nat), j ≤ 8 ∧ x = .int .i64 q ∧ i = .int .i64 (7 - (j : Int)) ∧ Hid (q < 65536) ∧ Hid (IterIs (8 - j) (q ^^^ zB yn j) T)) (fun _ i _ => (intOf i + 1).toNat)
      case atStart => exact ⟨0, ak, by omega, rfl, rfl, HA1, HT⟩
      case round =>
        obtain ⟨j, q, hj, rfl, rfl, HAJ, HIJ⟩ := hrel
        have hjs : j = 8 ∨ j = 0 ∨ j = 1 ∨ j = 2 ∨ j = 3 ∨ j = 4 ∨ j = 5 ∨ j = 6 ∨ j = 7 := by omega
        rcases hjs with rfl | rfl | rfl | rfl | rfl | rfl | rfl | rfl | rfl
        · have hfin : q = T := by
            have h := HIJ.out
            unfold IterIs at h
            rw [zB_8, Nat.xor_zero] at h
            exact h
          subst hfin
          clear HIJ HT
          go_wp2_with fail
          refine ⟨⟨k + 1, q, by omega, by simp, by simp, HAJ, HS2⟩, by simp [intOf]; omega⟩
        · have hcs := crc_step q yn 0 HAJ.out (by omega)
          obtain ⟨r, hre⟩ : ∃ r, crcN q (yn / 2 ^ (7 - 0) % 2) = r := ⟨_, rfl⟩
          have hrl : r < 65536 := by rw [← hre]; exact crcN_lt
          rw [hre] at hcs
          have hin : IterIs (8 - (0 + 1)) (r ^^^ zB yn (0 + 1)) T := by
            have h := HIJ.out
            rw [← hcs]; exact h
          have hyn := HY.out
          obtain ⟨zq, hzq⟩ : ∃ z : Int, (q : Int) = z := ⟨_, rfl⟩
          have hq0 : 0 ≤ zq := by omega
          have hq1 : zq < 65536 := by have := HAJ.out; omega
          obtain ⟨ri, hri⟩ : ∃ z : Int, (r : Int) = z := ⟨_, rfl⟩
          have HIN := Lib.hid hin
          have HRL := Lib.hid hrl
          rw [hzq]
          by_cases ht : (zq / 32768 + y / 128 % 2) % 2 = 1
          · have hxr : bits .xor .i64 (2 * zq % 65536) 4129 = ri := by
              have h := i64_xor_nat (2 * q % 65536) 4129 (by omega) (by omega)
              rw [← hri, ← hre, crcN, if_pos (by simp; omega), ← h, ← hzq]
              simp
            have hr0 : 0 ≤ ri := by omega
            have hr1 : ri < 65536 := by omega
            have HRI := Lib.hid hri
            clear hri hre hzq hyn hin hrl hcs
            go_wp2_with fail
            refine ⟨⟨1, r, by omega, by rw [HRI.out], by simp, HRL, HIN⟩, by simp [intOf]⟩
          · have hxr : 2 * zq % 65536 = (r : Int) := by
              rw [← hre, crcN, if_neg (by simp; omega), ← hzq]
              simp
            have HRI := Lib.hid hxr
            have ht0 : (zq / 32768 + y / 128 % 2) % 2 = 0 := by omega
            clear hxr hri hre hzq hyn hin hrl hcs ht
            go_wp2_with fail
            refine ⟨⟨1, r, by omega, by rw [← HRI.out], by simp, HRL, HIN⟩, by simp [intOf]⟩
        · have hcs := crc_step q yn 1 HAJ.out (by omega)
          obtain ⟨r, hre⟩ : ∃ r, crcN q (yn / 2 ^ (7 - 1) % 2) = r := ⟨_, rfl⟩
          have hrl : r < 65536 := by rw [← hre]; exact crcN_lt
          rw [hre] at hcs
          have hin : IterIs (8 - (1 + 1)) (r ^^^ zB yn (1 + 1)) T := by
            have h := HIJ.out
            rw [← hcs]; exact h
          have hyn := HY.out
          obtain ⟨zq, hzq⟩ : ∃ z : Int, (q : Int) = z := ⟨_, rfl⟩
          have hq0 : 0 ≤ zq := by omega
          have hq1 : zq < 65536 := by have := HAJ.out; omega
          obtain ⟨ri, hri⟩ : ∃ z : Int, (r : Int) = z := ⟨_, rfl⟩
          have HIN := Lib.hid hin
          have HRL := Lib.hid hrl
          rw [hzq]
          by_cases ht : (zq / 32768 + y / 64 % 2) % 2 = 1
          · have hxr : bits .xor .i64 (2 * zq % 65536) 4129 = ri := by
              have h := i64_xor_nat (2 * q % 65536) 4129 (by omega) (by omega)
              rw [← hri, ← hre, crcN, if_pos (by simp; omega), ← h, ← hzq]
              simp
            have hr0 : 0 ≤ ri := by omega
            have hr1 : ri < 65536 := by omega
            have HRI := Lib.hid hri
            clear hri hre hzq hyn hin hrl hcs
            go_wp2_with fail
            refine ⟨⟨2, r, by omega, by rw [HRI.out], by simp, HRL, HIN⟩, by simp [intOf]⟩
          · have hxr : 2 * zq % 65536 = (r : Int) := by
              rw [← hre, crcN, if_neg (by simp; omega), ← hzq]
              simp
            have HRI := Lib.hid hxr
            have ht0 : (zq / 32768 + y / 64 % 2) % 2 = 0 := by omega
            clear hxr hri hre hzq hyn hin hrl hcs ht
            go_wp2_with fail
            refine ⟨⟨2, r, by omega, by rw [← HRI.out], by simp, HRL, HIN⟩, by simp [intOf]⟩
        · have hcs := crc_step q yn 2 HAJ.out (by omega)
          obtain ⟨r, hre⟩ : ∃ r, crcN q (yn / 2 ^ (7 - 2) % 2) = r := ⟨_, rfl⟩
          have hrl : r < 65536 := by rw [← hre]; exact crcN_lt
          rw [hre] at hcs
          have hin : IterIs (8 - (2 + 1)) (r ^^^ zB yn (2 + 1)) T := by
            have h := HIJ.out
            rw [← hcs]; exact h
          have hyn := HY.out
          obtain ⟨zq, hzq⟩ : ∃ z : Int, (q : Int) = z := ⟨_, rfl⟩
          have hq0 : 0 ≤ zq := by omega
          have hq1 : zq < 65536 := by have := HAJ.out; omega
          obtain ⟨ri, hri⟩ : ∃ z : Int, (r : Int) = z := ⟨_, rfl⟩
          have HIN := Lib.hid hin
          have HRL := Lib.hid hrl
          rw [hzq]
          by_cases ht : (zq / 32768 + y / 32 % 2) % 2 = 1
          · have hxr : bits .xor .i64 (2 * zq % 65536) 4129 = ri := by
              have h := i64_xor_nat (2 * q % 65536) 4129 (by omega) (by omega)
              rw [← hri, ← hre, crcN, if_pos (by simp; omega), ← h, ← hzq]
              simp
            have hr0 : 0 ≤ ri := by omega
            have hr1 : ri < 65536 := by omega
            have HRI := Lib.hid hri
            clear hri hre hzq hyn hin hrl hcs
            go_wp2_with fail
            refine ⟨⟨3, r, by omega, by rw [HRI.out], by simp, HRL, HIN⟩, by simp [intOf]⟩
          · have hxr : 2 * zq % 65536 = (r : Int) := by
              rw [← hre, crcN, if_neg (by simp; omega), ← hzq]
              simp
            have HRI := Lib.hid hxr
            have ht0 : (zq / 32768 + y / 32 % 2) % 2 = 0 := by omega
            clear hxr hri hre hzq hyn hin hrl hcs ht
            go_wp2_with fail
            refine ⟨⟨3, r, by omega, by rw [← HRI.out], by simp, HRL, HIN⟩, by simp [intOf]⟩
        · have hcs := crc_step q yn 3 HAJ.out (by omega)
          obtain ⟨r, hre⟩ : ∃ r, crcN q (yn / 2 ^ (7 - 3) % 2) = r := ⟨_, rfl⟩
          have hrl : r < 65536 := by rw [← hre]; exact crcN_lt
          rw [hre] at hcs
          have hin : IterIs (8 - (3 + 1)) (r ^^^ zB yn (3 + 1)) T := by
            have h := HIJ.out
            rw [← hcs]; exact h
          have hyn := HY.out
          obtain ⟨zq, hzq⟩ : ∃ z : Int, (q : Int) = z := ⟨_, rfl⟩
          have hq0 : 0 ≤ zq := by omega
          have hq1 : zq < 65536 := by have := HAJ.out; omega
          obtain ⟨ri, hri⟩ : ∃ z : Int, (r : Int) = z := ⟨_, rfl⟩
          have HIN := Lib.hid hin
          have HRL := Lib.hid hrl
          rw [hzq]
          by_cases ht : (zq / 32768 + y / 16 % 2) % 2 = 1
          · have hxr : bits .xor .i64 (2 * zq % 65536) 4129 = ri := by
              have h := i64_xor_nat (2 * q % 65536) 4129 (by omega) (by omega)
              rw [← hri, ← hre, crcN, if_pos (by simp; omega), ← h, ← hzq]
              simp
            have hr0 : 0 ≤ ri := by omega
            have hr1 : ri < 65536 := by omega
            have HRI := Lib.hid hri
            clear hri hre hzq hyn hin hrl hcs
            go_wp2_with fail
            refine ⟨⟨4, r, by omega, by rw [HRI.out], by simp, HRL, HIN⟩, by simp [intOf]⟩
          · have hxr : 2 * zq % 65536 = (r : Int) := by
              rw [← hre, crcN, if_neg (by simp; omega), ← hzq]
              simp
            have HRI := Lib.hid hxr
            have ht0 : (zq / 32768 + y / 16 % 2) % 2 = 0 := by omega
            clear hxr hri hre hzq hyn hin hrl hcs ht
            go_wp2_with fail
            refine ⟨⟨4, r, by omega, by rw [← HRI.out], by simp, HRL, HIN⟩, by simp [intOf]⟩
        · have hcs := crc_step q yn 4 HAJ.out (by omega)
          obtain ⟨r, hre⟩ : ∃ r, crcN q (yn / 2 ^ (7 - 4) % 2) = r := ⟨_, rfl⟩
          have hrl : r < 65536 := by rw [← hre]; exact crcN_lt
          rw [hre] at hcs
          have hin : IterIs (8 - (4 + 1)) (r ^^^ zB yn (4 + 1)) T := by
            have h := HIJ.out
            rw [← hcs]; exact h
          have hyn := HY.out
          obtain ⟨zq, hzq⟩ : ∃ z : Int, (q : Int) = z := ⟨_, rfl⟩
          have hq0 : 0 ≤ zq := by omega
          have hq1 : zq < 65536 := by have := HAJ.out; omega
          obtain ⟨ri, hri⟩ : ∃ z : Int, (r : Int) = z := ⟨_, rfl⟩
          have HIN := Lib.hid hin
          have HRL := Lib.hid hrl
          rw [hzq]
          by_cases ht : (zq / 32768 + y / 8 % 2) % 2 = 1
          · have hxr : bits .xor .i64 (2 * zq % 65536) 4129 = ri := by
              have h := i64_xor_nat (2 * q % 65536) 4129 (by omega) (by omega)
              rw [← hri, ← hre, crcN, if_pos (by simp; omega), ← h, ← hzq]
              simp
            have hr0 : 0 ≤ ri := by omega
            have hr1 : ri < 65536 := by omega
            have HRI := Lib.hid hri
            clear hri hre hzq hyn hin hrl hcs
            go_wp2_with fail
            refine ⟨⟨5, r, by omega, by rw [HRI.out], by simp, HRL, HIN⟩, by simp [intOf]⟩
          · have hxr : 2 * zq % 65536 = (r : Int) := by
              rw [← hre, crcN, if_neg (by simp; omega), ← hzq]
              simp
            have HRI := Lib.hid hxr
            have ht0 : (zq / 32768 + y / 8 % 2) % 2 = 0 := by omega
            clear hxr hri hre hzq hyn hin hrl hcs ht
            go_wp2_with fail
            refine ⟨⟨5, r, by omega, by rw [← HRI.out], by simp, HRL, HIN⟩, by simp [intOf]⟩
        · have hcs := crc_step q yn 5 HAJ.out (by omega)
          obtain ⟨r, hre⟩ : ∃ r, crcN q (yn / 2 ^ (7 - 5) % 2) = r := ⟨_, rfl⟩
          have hrl : r < 65536 := by rw [← hre]; exact crcN_lt
          rw [hre] at hcs
          have hin : IterIs (8 - (5 + 1)) (r ^^^ zB yn (5 + 1)) T := by
            have h := HIJ.out
            rw [← hcs]; exact h
          have hyn := HY.out
          obtain ⟨zq, hzq⟩ : ∃ z : Int, (q : Int) = z := ⟨_, rfl⟩
          have hq0 : 0 ≤ zq := by omega
          have hq1 : zq < 65536 := by have := HAJ.out; omega
          obtain ⟨ri, hri⟩ : ∃ z : Int, (r : Int) = z := ⟨_, rfl⟩
          have HIN := Lib.hid hin
          have HRL := Lib.hid hrl
          rw [hzq]
          by_cases ht : (zq / 32768 + y / 4 % 2) % 2 = 1
          · have hxr : bits .xor .i64 (2 * zq % 65536) 4129 = ri := by
              have h := i64_xor_nat (2 * q % 65536) 4129 (by omega) (by omega)
              rw [← hri, ← hre, crcN, if_pos (by simp; omega), ← h, ← hzq]
              simp
            have hr0 : 0 ≤ ri := by omega
            have hr1 : ri < 65536 := by omega
            have HRI := Lib.hid hri
            clear hri hre hzq hyn hin hrl hcs
            go_wp2_with fail
            refine ⟨⟨6, r, by omega, by rw [HRI.out], by simp, HRL, HIN⟩, by simp [intOf]⟩
          · have hxr : 2 * zq % 65536 = (r : Int) := by
              rw [← hre, crcN, if_neg (by simp; omega), ← hzq]
              simp
            have HRI := Lib.hid hxr
            have ht0 : (zq / 32768 + y / 4 % 2) % 2 = 0 := by omega
            clear hxr hri hre hzq hyn hin hrl hcs ht
            go_wp2_with fail
            refine ⟨⟨6, r, by omega, by rw [← HRI.out], by simp, HRL, HIN⟩, by simp [intOf]⟩
        · have hcs := crc_step q yn 6 HAJ.out (by omega)
          obtain ⟨r, hre⟩ : ∃ r, crcN q (yn / 2 ^ (7 - 6) % 2) = r := ⟨_, rfl⟩
          have hrl : r < 65536 := by rw [← hre]; exact crcN_lt
          rw [hre] at hcs
          have hin : IterIs (8 - (6 + 1)) (r ^^^ zB yn (6 + 1)) T := by
            have h := HIJ.out
            rw [← hcs]; exact h
          have hyn := HY.out
          obtain ⟨zq, hzq⟩ : ∃ z : Int, (q : Int) = z := ⟨_, rfl⟩
          have hq0 : 0 ≤ zq := by omega
          have hq1 : zq < 65536 := by have := HAJ.out; omega
          obtain ⟨ri, hri⟩ : ∃ z : Int, (r : Int) = z := ⟨_, rfl⟩
          have HIN := Lib.hid hin
          have HRL := Lib.hid hrl
          rw [hzq]
          by_cases ht : (zq / 32768 + y / 2 % 2) % 2 = 1
          · have hxr : bits .xor .i64 (2 * zq % 65536) 4129 = ri := by
              have h := i64_xor_nat (2 * q % 65536) 4129 (by omega) (by omega)
              rw [← hri, ← hre, crcN, if_pos (by simp; omega), ← h, ← hzq]
              simp
            have hr0 : 0 ≤ ri := by omega
            have hr1 : ri < 65536 := by omega
            have HRI := Lib.hid hri
            clear hri hre hzq hyn hin hrl hcs
            go_wp2_with fail
            refine ⟨⟨7, r, by omega, by rw [HRI.out], by simp, HRL, HIN⟩, by simp [intOf]⟩
          · have hxr : 2 * zq % 65536 = (r : Int) := by
              rw [← hre, crcN, if_neg (by simp; omega), ← hzq]
              simp
            have HRI := Lib.hid hxr
            have ht0 : (zq / 32768 + y / 2 % 2) % 2 = 0 := by omega
            clear hxr hri hre hzq hyn hin hrl hcs ht
            go_wp2_with fail
            refine ⟨⟨7, r, by omega, by rw [← HRI.out], by simp, HRL, HIN⟩, by simp [intOf]⟩
        · have hcs := crc_step q yn 7 HAJ.out (by omega)
          obtain ⟨r, hre⟩ : ∃ r, crcN q (yn / 2 ^ (7 - 7) % 2) = r := ⟨_, rfl⟩
          have hrl : r < 65536 := by rw [← hre]; exact crcN_lt
          rw [hre] at hcs
          have hin : IterIs (8 - (7 + 1)) (r ^^^ zB yn (7 + 1)) T := by
            have h := HIJ.out
            rw [← hcs]; exact h
          have hyn := HY.out
          obtain ⟨zq, hzq⟩ : ∃ z : Int, (q : Int) = z := ⟨_, rfl⟩
          have hq0 : 0 ≤ zq := by omega
          have hq1 : zq < 65536 := by have := HAJ.out; omega
          obtain ⟨ri, hri⟩ : ∃ z : Int, (r : Int) = z := ⟨_, rfl⟩
          have HIN := Lib.hid hin
          have HRL := Lib.hid hrl
          rw [hzq]
          by_cases ht : (zq / 32768 + y % 2) % 2 = 1
          · have hxr : bits .xor .i64 (2 * zq % 65536) 4129 = ri := by
              have h := i64_xor_nat (2 * q % 65536) 4129 (by omega) (by omega)
              rw [← hri, ← hre, crcN, if_pos (by simp; omega), ← h, ← hzq]
              simp
            have hr0 : 0 ≤ ri := by omega
            have hr1 : ri < 65536 := by omega
            have HRI := Lib.hid hri
            clear hri hre hzq hyn hin hrl hcs
            go_wp2_with fail
            refine ⟨⟨8, r, by omega, by rw [HRI.out], by simp, HRL, HIN⟩, by simp [intOf]⟩
          · have hxr : 2 * zq % 65536 = (r : Int) := by
              rw [← hre, crcN, if_neg (by simp; omega), ← hzq]
              simp
            have HRI := Lib.hid hxr
            have ht0 : (zq / 32768 + y % 2) % 2 = 0 := by omega
            clear hxr hri hre hzq hyn hin hrl hcs ht
            go_wp2_with fail
            refine ⟨⟨8, r, by omega, by rw [← HRI.out], by simp, HRL, HIN⟩, by simp [intOf]⟩
    · obtain rfl : k = n := by omega
      have hs : ak = S := by
        have hs : divS ak (l.drop k) = S := HSK.out
        rw [List.drop_of_length_le (by rw [HL.out]; omega), divS_nil] at hs
        exact hs
      subst hs
      clear HSK HS
      go_wp2_with fail
      go_ret
      exact ⟨rfl, rfl⟩
end Go.Proofs.Ytibkhjpjneoabaa.Ck

namespace Go.Proofs.Ytibkhjpjneoabaa.Ck
open Go.RowKit

/-- The checksum of any kind, 0 where there is none. -/
def valS (k : Int) (l : List UInt8) : Int := if 1 ≤ k ∧ k ≤ 3 then chkS k l else 0

set_option maxRecDepth 100000 in
theorem rsum_any (k : Int) (A : Option Addr) (n c : Nat) (l : List UInt8) (w : World) (hl : l.length = n) (hn : n ≤ 60000) (hb : BS w w.heap.size A l) :
    Calls Try.prog 43 #[.int .i64 k, .slice A n c] w fun e w' => e = .returned (.tuple #[.int .i64 (valS k l), .int .i64 (noS k)]) ∧ w = w' := by
  by_cases h1 : k = 1
  · subst h1
    have c1 := rone_any A n c l w hl hn hb
    have hv : valS 1 l = 65535 - wrdS 0 0 l := by simp [valS, chkS]
    rw [hv]
    have C1 := Lib.hid c1
    clear c1 hv hl hn hb
    go_enter Try.func43, Try.ntmps43
    go_wp2_with (go_at_call 62; (with_reducible refine C1.out.mono ?_); rintro e w1 ⟨rfl, rfl⟩)
    go_ret2
    exact ⟨rfl, rfl⟩
  by_cases h2 : k = 2
  · subst h2
    have c1 := rcrc_any A n c l w hl hn hb
    have hv : valS 2 l = (divS 65535 l : Int) := by simp [valS, chkS]
    rw [hv]
    have C1 := Lib.hid c1
    clear c1 hv hl hn hb
    go_enter Try.func43, Try.ntmps43
    go_wp2_with (go_at_call 63; (with_reducible refine C1.out.mono ?_); rintro e w1 ⟨rfl, rfl⟩)
    go_ret2
    exact ⟨rfl, rfl⟩
  by_cases h3 : k = 3
  · subst h3
    have c1 := radl_any A n c l w hl hn hb
    have hv : valS 3 l = 65536 * (adlS 1 0 l).2 + (adlS 1 0 l).1 := by simp [valS, chkS, Int.mul_comm]
    rw [hv]
    have C1 := Lib.hid c1
    clear c1 hv hl hn hb
    go_enter Try.func43, Try.ntmps43
    go_wp2_with (go_at_call 64; (with_reducible refine C1.out.mono ?_); rintro e w1 ⟨rfl, rfl⟩)
    go_ret2
    exact ⟨rfl, rfl⟩
  have hb : valS k l = 0 := by unfold valS; rw [if_neg (by omega)]
  have hc : noS k = 2 := by unfold noS; rw [if_neg (by omega)]
  rw [hb, hc]
  have d1 : (k == 1) = false := by simp [h1]
  have d2 : (k == 2) = false := by simp [h2]
  have d3 : (k == 3) = false := by simp [h3]
  clear h1 h2 h3 hb hc hl hn
  go_enter Try.func43, Try.ntmps43
  go_wp2
  go_ret2
  exact ⟨rfl, rfl⟩
end Go.Proofs.Ytibkhjpjneoabaa.Ck
