/- The contract of (*state).divide. -/
import Derived.Test.YtgbkoegmoelheaaCkAdl
namespace Go.Proofs.Ytgbkoegmoelheaa.Ck
open Go.RowKit

/-- One shift of the CRC. -/
def stepB (a : Nat) : Nat := if 65536 ≤ a * 2 then (a * 2 % 65536) ^^^ 4129 else a * 2
def iterS : Nat → Nat → Nat
  | 0, a => a
  | k + 1, a => iterS k (stepB a)
/-- What bytes make of the CRC. -/
def divS (a : Nat) (l : List UInt8) : Nat := l.foldl (fun a x => iterS 8 (a ^^^ (x.toNat * 256))) a
def DivIs (a : Nat) (l : List UInt8) (S : Nat) : Prop := divS a l = S
def IterIs (k a S : Nat) : Prop := iterS k a = S

theorem divS_nil (a : Nat) : divS a [] = a := List.foldl_nil
theorem divS_cons (a : Nat) (x : UInt8) (l : List UInt8) : divS a (x :: l) = divS (iterS 8 (a ^^^ (x.toNat * 256))) l := List.foldl_cons
theorem stepB_lt {a : Nat} (h : a < 65536) : stepB a < 65536 := by
  unfold stepB
  split
  · exact Nat.xor_lt_two_pow (n := 16) (by omega) (by omega)
  · omega
theorem xorB_lt {a x : Nat} (h : a < 65536) (hx : x < 256) : a ^^^ (x * 256) < 65536 := Nat.xor_lt_two_pow (n := 16) (by omega) (by omega)
theorem i64_xor_nat (a b : Nat) (ha : a < 9223372036854775808) (hb : b < 9223372036854775808) : bits .xor .i64 (a : Int) (b : Int) = ((a ^^^ b : Nat) : Int) := by
  have hx : a ^^^ b < 2 ^ 63 := Nat.xor_lt_two_pow (by omega) (by omega)
  show IntKind.i64.wrap ((BitVec.ofInt 64 (a : Int) ^^^ BitVec.ofInt 64 (b : Int)).toNat : Int) = _
  rw [BitVec.toNat_xor, ofInt_i64 a ha, ofInt_i64 b hb, IntKind.wrap_i64]
  omega

set_option maxRecDepth 100000 in
set_option maxHeartbeats 1000000 in
theorem div_any (A : Option Addr) (n c g : Nat) (t : TypeId) (a : Nat) (m : Int) (b x : Value) (l : List UInt8) (w : World) (hl : l.length = n) (hn : n ≤ 60000) (ha : a < 65536) (hm : 0 ≤ m) (hm2 : m < 60000)
    (hb : BS w w.heap.size A l) (hne : 0 < n → ∀ p : Addr, A = some p → p.block ≠ g) (hg : Blk w g t #[.int .i64 a, b, .int .i64 m, x]) :
    Calls Try.prog 67 #[.pointer (some ⟨g, 0, none⟩), .slice A n c] w fun e w' => (e = .returned (.tuple #[]) ∧ Blk w' g t #[.int .i64 (divS a l), b, .int .i64 (m + n), x]) ∧ w.grownBy w' (some g) := by
  obtain ⟨S, hS⟩ : ∃ S, divS a l = S := ⟨_, rfl⟩
  rw [hS]
  have HL := Lib.hid hl
  have HB := Lib.hid hb
  have HN := Lib.hid hne
  have HG := Lib.hid hg
  have HS := Lib.hid (show DivIs a l S from hS)
  have HR := Lib.hid (World.grownBy.refl w (some g))
  have HA := Lib.hid ha
  clear hl hb hne hg hS ha
  go_enter Try.func67, Try.ntmps67
  go_wp2_with fail
  go_loopw [5, 8] (fun _ i wr => ∃ (k ak : Nat), k ≤ n ∧ i = .int .i64 k ∧ Hid (ak < 65536) ∧ Hid (DivIs ak (l.drop k) S) ∧ Hid (Blk wr g t #[.int .i64 ak, b, .int .i64 m, x]) ∧ Hid (w.grownBy wr (some g))) (fun _ i _ => n - (intOf i).toNat)
  case atStart => exact ⟨0, a, Nat.zero_le _, rfl, HA, HS, HG, HR⟩
  case round =>
    obtain ⟨k, ak, hk, rfl, HA1, HSK, HGK, HRK⟩ := hrel
    by_cases hlt : k < n
    · obtain ⟨bl, o, hA, hbB, hc⟩ := HB.out (by rw [HL.out]; omega)
      have hnb := HN.out (by omega) _ hA
      subst hA
      have hkl : k < l.length := by rw [HL.out]; exact hlt
      have hck := (HRK.out.cell (hc k hkl) (by simpa using hnb))
      have e0 := HGK.out.cell 0
      have f0 := HGK.out.frozen 0
      simp at e0
      have hx2 : (l[k].toNat : Int) < 256 := by have := l[k].toNat_lt; omega
      have hx0 : 0 ≤ (l[k].toNat : Int) := by omega
      have hst : l.drop k = l[k] :: l.drop (k + 1) := List.drop_eq_getElem_cons hkl
      have hs2 : divS ak (l.drop k) = S := HSK.out
      rw [hst, divS_cons] at hs2
      have hq : ak ^^^ (l[k].toNat * 256) < 65536 := xorB_lt HA1.out l[k].toNat_lt
      have hxr : bits .xor .i64 (ak : Int) ((l[k].toNat : Int) * 256) = ((ak ^^^ (l[k].toNat * 256) : Nat) : Int) := by
        have := i64_xor_nat ak (l[k].toNat * 256) (by have := HA1.out; omega) (by have := l[k].toNat_lt; omega)
        rw [← this]; simp
      obtain ⟨q, hqe⟩ : ∃ q : Nat, ak ^^^ (l[k].toNat * 256) = q := ⟨_, rfl⟩
      rw [hqe] at hq hxr hs2
      obtain ⟨T, hT⟩ : ∃ T, iterS 8 q = T := ⟨_, rfl⟩
      rw [hT] at hs2
      have HT := Lib.hid (show IterIs 8 q T from hT)
      clear hT
      clear hst hc
      obtain ⟨y, hx⟩ : ∃ y : Int, (l[k].toNat : Int) = y := ⟨_, rfl⟩
      rw [hx] at hck hx2 hx0 hxr
      have HBN := Lib.hid hnb
      have HS2 := Lib.hid (show DivIs T (l.drop (k + 1)) S from hs2)
      have HQ := Lib.hid hq
      obtain ⟨z, hz⟩ : ∃ z : Int, (ak : Int) = z := ⟨_, rfl⟩
      obtain ⟨qi, hqi⟩ : ∃ z : Int, (q : Int) = z := ⟨_, rfl⟩
      have hz0 : 0 ≤ z := by omega
      have hz1 : z < 65536 := by have := HA1.out; omega
      have hq0 : 0 ≤ qi := by omega
      have hq1 : qi < 65536 := by omega
      rw [hz] at e0 hxr
      rw [hqi] at hxr
      have HZ := Lib.hid hz
      have HQI := Lib.hid hqi
      clear hx hnb hbB hq hqe hs2 hz hqi
      go_wp2_with fail
      go_loopw [22] (fun i wi => ∃ (j aj : Nat), j ≤ 8 ∧ i = .int .i64 j ∧ Hid (aj < 65536) ∧ Hid (IterIs (8 - j) aj T) ∧ Hid (Blk wi g t #[.int .i64 aj, b, .int .i64 m, x]) ∧ Hid (w.grownBy wi (some g))) (fun i _ => 8 - (intOf i).toNat)
      case atStart => exact ⟨0, q, by omega, rfl, HQ, HT, Lib.hid (by rw [HQI.out]; exact HGK.out.set_ 0 _), Lib.hid (grown_set HRK.out 0 _)⟩
      case round =>
        obtain ⟨j, aj, hj, rfl, HAJ, HIJ, HGJ, HRJ⟩ := hrel
        by_cases hlt2 : (j : Int) < 8
        · have d0 := HGJ.out.cell 0
          have d1 := HGJ.out.frozen 0
          simp at d0
          obtain ⟨zj, hzj⟩ : ∃ z : Int, (aj : Int) = z := ⟨_, rfl⟩
          have hj0 : 0 ≤ zj := by omega
          have hj1 : zj < 65536 := by have := HAJ.out; omega
          rw [hzj] at d0
          have HZJ := Lib.hid hzj
          clear hzj e0 f0 hxr
          by_cases hbig : 65536 ≤ zj * 2
          · have hr : bits .xor .i64 (zj * 2 % 65536) 4129 = ((stepB aj : Nat) : Int) := by
              have hz := HZJ.out
              have := i64_xor_nat (aj * 2 % 65536) 4129 (by omega) (by omega)
              rw [stepB, if_pos (by omega), ← this, ← hz]
              simp
            have hlt3 := stepB_lt HAJ.out
            have hin : IterIs (8 - (j + 1)) (stepB aj) T := by
              have h := HIJ.out
              rw [show 8 - j = (8 - (j + 1)) + 1 by omega] at h
              exact h
            obtain ⟨r, hre⟩ : ∃ r, stepB aj = r := ⟨_, rfl⟩
            rw [hre] at hr hin hlt3
            obtain ⟨ri, hri⟩ : ∃ z : Int, (r : Int) = z := ⟨_, rfl⟩
            rw [hri] at hr
            have hr0 : 0 ≤ ri := by omega
            have hr1 : ri < 65536 := by omega
            have HRI := Lib.hid hri
            have HIN := Lib.hid hin
            have HL3 := Lib.hid hlt3
            clear hre hri hin hlt3
            go_wp2_with fail
            refine ⟨⟨j + 1, r, by omega, by simp, HL3, HIN, Lib.hid (by rw [HRI.out]; exact (HGJ.out.set_ 0 _).set_ 0 _), Lib.hid (grown_set (grown_set HRJ.out 0 _) 0 _)⟩, by simp [intOf]; omega⟩
          · have hr : zj * 2 = ((stepB aj : Nat) : Int) := by
              have hz := HZJ.out
              rw [stepB, if_neg (by omega)]; omega
            have hlt3 := stepB_lt HAJ.out
            have hin : IterIs (8 - (j + 1)) (stepB aj) T := by
              have h := HIJ.out
              rw [show 8 - j = (8 - (j + 1)) + 1 by omega] at h
              exact h
            have HRI := Lib.hid hr
            have HIN := Lib.hid hin
            have HL3 := Lib.hid hlt3
            clear hr hin hlt3
            have hsm : zj * 2 < 65536 := by omega
            go_wp2_with fail
            refine ⟨⟨j + 1, stepB aj, by omega, by simp, HL3, HIN, Lib.hid (by rw [← HRI.out]; exact HGJ.out.set_ 0 _), Lib.hid (grown_set HRJ.out 0 _)⟩, by simp [intOf]; omega⟩
        · obtain rfl : j = 8 := by omega
          have hfin : aj = T := HIJ.out
          subst hfin
          clear e0 f0 hxr
          go_wp2_with fail
          refine ⟨⟨k + 1, aj, by omega, by simp, HAJ, HS2, HGJ, HRJ⟩, by simp [intOf]; omega⟩
    · obtain rfl : k = n := by omega
      have e2 := HGK.out.cell 2
      have f2 := HGK.out.frozen 2
      simp at e2
      have hs : divS ak (l.drop k) = S := HSK.out
      rw [List.drop_of_length_le (by rw [HL.out]; omega)] at hs
      rw [divS_nil] at hs
      have HE := Lib.hid hs
      clear hs
      go_wp2_with fail
      go_end0
      refine ⟨⟨rfl, ?_⟩, grown_set HRK.out 2 _⟩
      rw [← HE.out]
      exact HGK.out.set_ 2 _
end Go.Proofs.Ytgbkoegmoelheaa.Ck
