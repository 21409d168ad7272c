/- Contracts of the reference's Bits, adler and ones. -/
import Derived.Test.YtcjmeiklfkiibaaChk
import Derived.WalkLawsBesides
namespace Go.Proofs.Ytcjmeiklfkiibaa
open Go.RowKit

def bitsS (k : Int) : Int := if k = 1 ∨ k = 2 then 16 else if k = 3 then 32 else 0
def noS (k : Int) : Int := if 1 ≤ k ∧ k ≤ 3 then 0 else 2

set_option maxRecDepth 100000 in
theorem rbits_any (k : Int) (w : World) : Calls Try.prog 14 #[.int .i64 k] w fun e w' => e = .returned (.tuple #[.int .i64 (bitsS k), .int .i64 (noS k)]) ∧ w = w' := by
  by_cases h1 : k = 1
  · subst h1
    go_enter Try.func14, Try.ntmps14
    go_wp2
    go_ret2
    exact ⟨rfl, rfl⟩
  by_cases h2 : k = 2
  · subst h2
    go_enter Try.func14, Try.ntmps14
    go_wp2
    go_ret2
    exact ⟨rfl, rfl⟩
  by_cases h3 : k = 3
  · subst h3
    go_enter Try.func14, Try.ntmps14
    go_wp2
    go_ret2
    exact ⟨rfl, rfl⟩
  have hb : bitsS k = 0 := by unfold bitsS; rw [if_neg (by omega), if_neg (by omega)]
  have hc : noS k = 2 := by unfold noS; rw [if_neg (by omega)]
  rw [hb, hc]
  have d1 : (k == 1) = false := by simp [h1]
  have d2 : (k == 2) = false := by simp [h2]
  have d3 : (k == 3) = false := by simp [h3]
  clear h1 h2 h3 hb hc
  go_enter Try.func14, Try.ntmps14
  go_wp2
  go_ret2
  exact ⟨rfl, rfl⟩

set_option maxRecDepth 100000 in
set_option maxHeartbeats 1000000 in
theorem radl_any (A : Option Addr) (n c : Nat) (l : List UInt8) (w : World) (hl : l.length = n) (hn : n ≤ 60000) (hb : BS w w.heap.size A l) :
    Calls Try.prog 29 #[.slice A n c] w fun e w' => e = .returned (.int .i64 (65536 * (adlS 1 0 l).2 + (adlS 1 0 l).1)) ∧ w = w' := by
  obtain ⟨S, hS⟩ : ∃ S, adlS 1 0 l = S := ⟨_, rfl⟩
  rw [hS]
  have HL := Lib.hid hl
  have HB := Lib.hid hb
  have HS := Lib.hid hS
  clear hl hb hS
  go_enter Try.func29, Try.ntmps29
  go_wp2_with fail
  go_loop [3, 4, 5] (fun x y i => ∃ (k : Nat) (ak bk : Int), k ≤ n ∧ x = .int .i64 ak ∧ y = .int .i64 bk ∧ i = .int .i64 k ∧ 0 ≤ ak ∧ ak < 65521 ∧ 0 ≤ bk ∧ bk < 65521 ∧ Hid (adlS ak bk (l.drop k) = S)) (fun _ _ i => n - (intOf i).toNat)
  case atStart => exact ⟨0, 1, 0, Nat.zero_le _, rfl, rfl, rfl, by omega, by omega, by omega, by omega, HS⟩
  case round =>
    obtain ⟨k, ak, bk, hk, rfl, rfl, rfl, h1, h2, h3, h4, HSK⟩ := hrel
    by_cases hlt : k < n
    · obtain ⟨bl, o, hA, hbB, hc⟩ := HB.out (by rw [HL.out]; omega)
      subst hA
      have hkl : k < l.length := by rw [HL.out]; exact hlt
      have hck := hc k hkl
      have hx2 : (l[k].toNat : Int) < 256 := by have := l[k].toNat_lt; omega
      have hx0 : 0 ≤ (l[k].toNat : Int) := by omega
      have hst : l.drop k = l[k] :: l.drop (k + 1) := List.drop_eq_getElem_cons hkl
      have hs2 := HSK.out
      rw [hst] at hs2
      simp only [adlS] at hs2
      clear hst hc
      obtain ⟨y, hx⟩ : ∃ y : Int, (l[k].toNat : Int) = y := ⟨_, rfl⟩
      rw [hx] at hck hx2 hx0 hs2
      have HS2 := Lib.hid hs2
      clear hx hs2 hbB
      go_wp2_with fail
      refine ⟨⟨k + 1, (ak + y) % 65521, (bk + (ak + y)) % 65521, by omega, by simp, by simp, by simp, by omega, by omega, by omega, by omega, HS2⟩, by simp [intOf]; omega⟩
    · obtain rfl : k = n := by omega
      have hs := HSK.out
      rw [List.drop_of_length_le (by rw [HL.out]; omega)] at hs
      simp only [adlS] at hs
      subst hs
      go_wp2_with fail
      go_ret
      exact ⟨rfl, rfl⟩
end Go.Proofs.Ytcjmeiklfkiibaa
