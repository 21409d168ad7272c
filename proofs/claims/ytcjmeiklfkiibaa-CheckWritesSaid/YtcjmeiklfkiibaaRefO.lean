/- The contract of the reference's ones. -/
import Derived.Test.YtcjmeiklfkiibaaOneP
import Derived.WalkLawsBesides
namespace Go.Proofs.Ytcjmeiklfkiibaa
open Go.RowKit

def SumIs (s c : Int) (l : List UInt8) (T : Int) : Prop := s + totS c l = T
def FoldIs (s T : Int) : Prop := s % 65535 = T % 65535 ∧ (0 < s ↔ 0 < T)

set_option maxRecDepth 100000 in
set_option maxHeartbeats 1000000 in
theorem rone_any (A : Option Addr) (n c : Nat) (l : List UInt8) (w : World) (hl : l.length = n) (hn : n ≤ 60000) (hb : BS w w.heap.size A l) :
    Calls Try.prog 27 #[.slice A n c] w fun e w' => e = .returned (.int .i64 (65535 - wrdS 0 0 l)) ∧ w = w' := by
  have hT : ∃ T, totS 0 l = T := ⟨_, rfl⟩
  obtain ⟨T, hT⟩ := hT
  have hw : wrdS 0 0 l = fT T := by rw [wrdS_eq l 0 0 (by omega) (by omega), Int.zero_add, hT]
  rw [hw]
  have hr := totS_range l 0
  rw [hT, hl] at hr
  have HL := Lib.hid hl
  have HB := Lib.hid hb
  have HS := Lib.hid (show SumIs 0 (0 : Nat) l T from by unfold SumIs; rw [Int.zero_add]; exact hT)
  have HR := Lib.hid hr
  have HTT := Lib.hid (fun (s : Int) (h1 : 0 ≤ s) (h2 : s ≤ 65535) (hf : FoldIs s T) (h3 : 0 ≤ T) => show fT T = s from (fT_same h3 h1 hf.1.symm hf.2.symm).trans (fT_low h1 h2))
  clear hl hb hT hw hr
  go_enter Try.func27, Try.ntmps27
  go_wp2_with fail
  go_loop [3, 4] (fun x i => ∃ (k : Nat) (s : Int), k ≤ n ∧ x = .int .i64 s ∧ i = .int .i64 k ∧ 0 ≤ s ∧ s ≤ 65280 * k ∧ Hid (SumIs s k (l.drop k) T)) (fun _ i => n - (intOf i).toNat)
  case atStart => exact ⟨0, 0, Nat.zero_le _, rfl, rfl, by omega, by omega, HS⟩
  case round =>
    obtain ⟨k, s, hk, rfl, rfl, h1, h2, HSK⟩ := hrel
    by_cases hlt : k < n
    · obtain ⟨bl, o, hA, hbB, hc⟩ := HB.out (by rw [HL.out]; omega)
      subst hA
      have hkl : k < l.length := by rw [HL.out]; exact hlt
      have hck := hc k hkl
      have hx2 : (l[k].toNat : Int) < 256 := by have := l[k].toNat_lt; omega
      have hx0 : 0 ≤ (l[k].toNat : Int) := by omega
      have hst : l.drop k = l[k] :: l.drop (k + 1) := List.drop_eq_getElem_cons hkl
      have hs2 := HSK.out
      unfold SumIs at hs2
      rw [hst] at hs2
      simp only [totS] at hs2
      have hk1 : (k : Int) + 1 = ((k + 1 : Nat) : Int) := by omega
      rw [hk1] at hs2
      clear hst hc hk1
      obtain ⟨y, hx⟩ : ∃ y : Int, (l[k].toNat : Int) = y := ⟨_, rfl⟩
      rw [hx] at hck hx2 hx0 hs2
      clear hx hbB
      by_cases hp : (k : Int) % 2 = 0
      · rw [if_pos hp] at hs2
        have HS2 := Lib.hid (show SumIs (s + 256 * y) ((k + 1 : Nat) : Int) (l.drop (k + 1)) T by unfold SumIs; omega)
        clear hs2
        go_wp2_with fail
        refine ⟨⟨k + 1, s + 256 * y, by omega, by simp, by simp, by omega, by omega, HS2⟩, by simp [intOf]; omega⟩
      · rw [if_neg hp] at hs2
        have HS2 := Lib.hid (show SumIs (s + y) ((k + 1 : Nat) : Int) (l.drop (k + 1)) T by unfold SumIs; omega)
        clear hs2
        go_wp2_with fail
        refine ⟨⟨k + 1, s + y, by omega, by simp, by simp, by omega, by omega, HS2⟩, by simp [intOf]; omega⟩
    · obtain rfl : k = n := by omega
      have hs : s = T := by
        have := HSK.out
        unfold SumIs at this
        rw [List.drop_of_length_le (by rw [HL.out]; omega)] at this
        simp only [totS] at this
        omega
      subst hs
      clear HSK HS
      go_wp2_with fail
      go_loop [3] (fun x => ∃ (s' : Int), x = .int .i64 s' ∧ 0 ≤ s' ∧ s' ≤ 65280 * 60000 ∧ Hid (FoldIs s' s)) (fun x => (intOf x).toNat)
      case atStart => exact ⟨s, rfl, h1, by omega, Lib.hid ⟨rfl, Iff.rfl⟩⟩
      case round =>
        obtain ⟨s', rfl, g1, g2, HF⟩ := hrel
        by_cases hbig : s' ≤ 65535
        · have hE := Lib.hid (HTT.out s' g1 hbig HF.out h1)
          go_wp2_with fail
          go_ret
          exact ⟨by rw [hE.out]; rfl, rfl⟩
        · have hbig2 : 65535 < s' := by omega
          have HF2 := Lib.hid (show FoldIs (s' % 65536 + s' / 65536) s from by have := HF.out; unfold FoldIs at this ⊢; omega)
          clear hbig
          go_wp2_with fail
          refine ⟨⟨s' % 65536 + s' / 65536, by simp, by omega, by omega, HF2⟩, by simp [intOf]; omega⟩
end Go.Proofs.Ytcjmeiklfkiibaa
