/- The contract of (*state).words. -/
import Derived.Test.YtgbkoegmoelheaaCkAdl
namespace Go.Proofs.Ytgbkoegmoelheaa.Ck
open Go.RowKit

/-- What bytes make of the sum in ones' complement; c bytes stand before. -/
def wrdS : Int → Int → List UInt8 → Int
  | _, a, [] => a
  | c, a, x :: l => wrdS (c + 1) ((a + (if c % 2 = 0 then (x.toNat : Int) * 256 else (x.toNat : Int))) % 65536 + (a + (if c % 2 = 0 then (x.toNat : Int) * 256 else (x.toNat : Int))) / 65536) l

set_option maxRecDepth 100000 in
set_option maxHeartbeats 1000000 in
theorem wrd_any (A : Option Addr) (n c g : Nat) (t : TypeId) (a m : Int) (b x : Value) (l : List UInt8) (w : World) (hl : l.length = n) (hn : n ≤ 60000) (ha : 0 ≤ a) (ha2 : a ≤ 65535) (hm : 0 ≤ m) (hm2 : m < 60000)
    (hb : BS w w.heap.size A l) (hne : 0 < n → ∀ p : Addr, A = some p → p.block ≠ g) (hg : Blk w g t #[.int .i64 a, b, .int .i64 m, x]) :
    Calls Try.prog 65 #[.pointer (some ⟨g, 0, none⟩), .slice A n c] w fun e w' => (e = .returned (.tuple #[]) ∧ Blk w' g t #[.int .i64 (wrdS m a l), b, .int .i64 (m + n), x]) ∧ w.grownBy w' (some g) := by
  obtain ⟨S, hS⟩ : ∃ S, wrdS m a l = S := ⟨_, rfl⟩
  rw [hS]
  have HL := Lib.hid hl
  have HB := Lib.hid hb
  have HN := Lib.hid hne
  have HG := Lib.hid hg
  have HS := Lib.hid (show wrdS (m + (0 : Nat)) a l = S by simpa using hS)
  have HR := Lib.hid (World.grownBy.refl w (some g))
  clear hl hb hne hg hS
  go_enter Try.func65, Try.ntmps65
  go_wp2_with fail
  go_loopw [4, 5, 6, 9] (fun _ _ _ i wr => ∃ (k : Nat) (ak : Int), k ≤ n ∧ i = .int .i64 k ∧ 0 ≤ ak ∧ ak ≤ 65535 ∧ Hid (wrdS (m + k) ak (l.drop k) = S) ∧ Hid (Blk wr g t #[.int .i64 ak, b, .int .i64 m, x]) ∧ Hid (w.grownBy wr (some g))) (fun _ _ _ i _ => n - (intOf i).toNat)
  case atStart => exact ⟨0, a, Nat.zero_le _, rfl, ha, ha2, HS, HG, HR⟩
  case round =>
    obtain ⟨k, ak, hk, rfl, h1, h2, HSK, HGK, HRK⟩ := hrel
    by_cases hlt : k < n
    · obtain ⟨bl, o, hA, hbB, hc⟩ := HB.out (by rw [HL.out]; omega)
      have hnb := HN.out (by omega) _ hA
      subst hA
      have hkl : k < l.length := by rw [HL.out]; exact hlt
      have hck := (HRK.out.cell (hc k hkl) (by simpa using hnb))
      have e0 := HGK.out.cell 0
      have e2 := HGK.out.cell 2
      have f0 := HGK.out.frozen 0
      simp at e0 e2
      have hx2 : (l[k].toNat : Int) < 256 := by have := l[k].toNat_lt; omega
      have hx0 : 0 ≤ (l[k].toNat : Int) := by omega
      have hst : l.drop k = l[k] :: l.drop (k + 1) := List.drop_eq_getElem_cons hkl
      have hs2 := HSK.out
      rw [hst] at hs2
      simp only [wrdS] at hs2
      have hk1 : m + (k : Int) + 1 = m + ((k + 1 : Nat) : Int) := by omega
      rw [hk1] at hs2
      clear hst hc hk1
      obtain ⟨y, hx⟩ : ∃ y : Int, (l[k].toNat : Int) = y := ⟨_, rfl⟩
      rw [hx] at hck hx2 hx0 hs2
      have HBN := Lib.hid hnb
      clear hx hnb hbB
      by_cases hp : (m + (k : Int)) % 2 = 0
      · rw [if_pos hp] at hs2
        have HS2 := Lib.hid hs2
        clear hs2
        go_wp2_with fail
        go_region
        go_wp2_with fail
        refine ⟨⟨k + 1, (ak + y * 256) % 65536 + (ak + y * 256) / 65536, by omega, by simp, by omega, by omega, HS2, Lib.hid ((HGK.out.set_ 0 _).set_ 0 _).drew, Lib.hid (grown_drew (grown_set (grown_set HRK.out 0 _) 0 _))⟩, by simp [intOf]; omega⟩
      · rw [if_neg hp] at hs2
        have HS2 := Lib.hid hs2
        clear hs2
        go_wp2_with fail
        go_region
        go_wp2_with fail
        refine ⟨⟨k + 1, (ak + y) % 65536 + (ak + y) / 65536, by omega, by simp, by omega, by omega, HS2, Lib.hid ((HGK.out.set_ 0 _).set_ 0 _).drew, Lib.hid (grown_drew (grown_set (grown_set HRK.out 0 _) 0 _))⟩, by simp [intOf]; omega⟩
    · obtain rfl : k = n := by omega
      have e2 := HGK.out.cell 2
      have f2 := HGK.out.frozen 2
      simp at e2
      have hs := HSK.out
      rw [List.drop_of_length_le (by rw [HL.out]; omega)] at hs
      simp only [wrdS] at hs
      have HE := Lib.hid hs
      clear hs
      go_wp2_with fail
      go_end0
      refine ⟨⟨rfl, ?_⟩, grown_set HRK.out 2 _⟩
      rw [← HE.out]
      exact HGK.out.set_ 2 _
end Go.Proofs.Ytgbkoegmoelheaa.Ck
