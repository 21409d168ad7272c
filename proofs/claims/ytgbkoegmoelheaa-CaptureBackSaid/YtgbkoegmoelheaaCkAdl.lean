/- The contract of (*state).adler. -/
import Derived.Test.YtgbkoegmoelheaaProg
import Derived.Test.YtgbkoegmoelheaaCkGen
import Derived.WalkLawsBesides
import Derived.Lib.BufferOwn
namespace Go.Proofs.Ytgbkoegmoelheaa.Ck
open Go.RowKit

theorem Blk.drew {w : World} {g : Nat} {t : TypeId} {cs : Array Value} (h : Blk w g t cs) : Blk w.drew g t cs := h
theorem grown_drew {w w' : World} {r : Option Nat} (h : w.grownBy w' r) : w.grownBy w'.drew r := ⟨h.1, h.2, h.3, h.4, h.5⟩

theorem grown_trans {a w w' : World} {row : Option Nat} (h : a.grownBy w row) (k : w.grownBy w' row) : a.grownBy w' row :=
  ⟨k.1.trans h.1, k.2.trans h.2, k.3.trans h.3, Nat.le_trans h.4 k.4, fun b hb hr => (k.5 b (Nat.lt_of_lt_of_le hb h.4) hr).trans (h.5 b hb hr)⟩
theorem Below_set (w : World) (b i : Nat) (v : Value) : w.grownBy (w.setCell ⟨b, i, none⟩ v) (some b) := Lib.grownBy_setB (World.grownBy.refl w _) i v
theorem grown_set {a w : World} {b : Nat} (h : a.grownBy w (some b)) (i : Nat) (v : Value) : a.grownBy (w.setCell ⟨b, i, none⟩ v) (some b) := grown_trans h (Below_set w b i v)

/-- What bytes make of the two sums. -/
def adlS : Int → Int → List UInt8 → Int × Int
  | a, b, [] => (a, b)
  | a, b, x :: l => adlS ((a + (x.toNat : Int)) % 65521) ((b + (a + (x.toNat : Int))) % 65521) l

set_option maxRecDepth 100000 in
set_option maxHeartbeats 1000000 in
theorem adl_any (A : Option Addr) (n c g : Nat) (t : TypeId) (a b m : Int) (x : Value) (l : List UInt8) (w : World) (hl : l.length = n) (hn : n ≤ 60000) (ha : 0 ≤ a) (ha2 : a < 65521) (hb0 : 0 ≤ b) (hb2 : b < 65521) (hm : 0 ≤ m) (hm2 : m < 60000)
    (hb : BS w w.heap.size A l) (hne : 0 < n → ∀ p : Addr, A = some p → p.block ≠ g) (hg : Blk w g t #[.int .i64 a, .int .i64 b, .int .i64 m, x]) :
    Calls Try.prog 69 #[.pointer (some ⟨g, 0, none⟩), .slice A n c] w fun e w' => (e = .returned (.tuple #[]) ∧ Blk w' g t #[.int .i64 (adlS a b l).1, .int .i64 (adlS a b l).2, .int .i64 (m + n), x]) ∧ w.grownBy w' (some g) := by
  obtain ⟨S, hS⟩ : ∃ S, adlS a b l = S := ⟨_, rfl⟩
  rw [hS]
  have HL := Lib.hid hl
  have HB := Lib.hid hb
  have HN := Lib.hid hne
  have HG := Lib.hid hg
  have HS := Lib.hid hS
  have HR := Lib.hid (World.grownBy.refl w (some g))
  clear hl hb hne hg hS
  go_enter Try.func69, Try.ntmps69
  go_wp2_with fail
  go_loopw [5, 8] (fun _ i wr => ∃ (k : Nat) (ak bk : Int), k ≤ n ∧ i = .int .i64 k ∧ 0 ≤ ak ∧ ak < 65521 ∧ 0 ≤ bk ∧ bk < 65521 ∧ Hid (adlS ak bk (l.drop k) = S) ∧ Hid (Blk wr g t #[.int .i64 ak, .int .i64 bk, .int .i64 m, x]) ∧ Hid (w.grownBy wr (some g))) (fun _ i _ => n - (intOf i).toNat)
  case atStart => exact ⟨0, a, b, Nat.zero_le _, rfl, ha, ha2, hb0, hb2, HS, HG, HR⟩
  case round =>
    obtain ⟨k, ak, bk, hk, rfl, h1, h2, h3, h4, HSK, HGK, HRK⟩ := hrel
    by_cases hlt : k < n
    · obtain ⟨bl, o, hA, hbB, hc⟩ := HB.out (by rw [HL.out]; omega)
      have hnb := HN.out (by omega) _ hA
      subst hA
      have hkl : k < l.length := by rw [HL.out]; exact hlt
      have hck := (HRK.out.cell (hc k hkl) (by simpa using hnb))
      have e0 := HGK.out.cell 0
      have e1 := HGK.out.cell 1
      have f0 := HGK.out.frozen 0
      have f1 := HGK.out.frozen 1
      simp at e0 e1
      have hx2 : (l[k].toNat : Int) < 256 := by have := l[k].toNat_lt; omega
      have hx0 : 0 ≤ (l[k].toNat : Int) := by omega
      have hst : l.drop k = l[k] :: l.drop (k + 1) := List.drop_eq_getElem_cons hkl
      have hs2 := HSK.out
      rw [hst] at hs2
      simp only [adlS] at hs2
      clear hst hc
      obtain ⟨y, hx⟩ : ∃ y : Int, (l[k].toNat : Int) = y := ⟨_, rfl⟩
      rw [hx] at hck hx2 hx0 hs2
      have HS2 := Lib.hid hs2
      have HBN := Lib.hid hnb
      clear hx hs2 hnb hbB
      go_wp2_with fail
      go_region
      go_wp2_with fail
      refine ⟨⟨k + 1, (ak + y) % 65521, (bk + (ak + y)) % 65521, by omega, by simp, by omega, by omega, by omega, by omega, HS2, Lib.hid ((HGK.out.set_ 0 _).set_ 1 _).drew, Lib.hid (grown_drew (grown_set (grown_set HRK.out 0 _) 1 _))⟩, by simp [intOf]; omega⟩
    · obtain rfl : k = n := by omega
      have e2 := HGK.out.cell 2
      have f2 := HGK.out.frozen 2
      simp at e2
      have hs := HSK.out
      rw [List.drop_of_length_le (by rw [HL.out]; omega)] at hs
      simp only [adlS] at hs
      have HE := Lib.hid hs
      clear hs
      go_wp2_with fail
      go_end0
      refine ⟨⟨rfl, ?_⟩, grown_set HRK.out 2 _⟩
      rw [← HE.out]
      exact HGK.out.set_ 2 _
end Go.Proofs.Ytgbkoegmoelheaa.Ck
