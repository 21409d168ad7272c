/- The contract of (*Writer).Little, whole. -/
import Derived.Test.YthgbnpafhkhjpaaLi2
namespace Go.Proofs.Ythgbnpafhkhjpaa
open Go.RowKit
set_option linter.unusedVariables false
set_option linter.unusedSimpArgs false

/-- The number of bits of a little number, where it may be put. -/
def littleE (bs : List Bool) (v k : Int) : Int := firstE [(true, 1), (littleOk v k, 2), ((bs.length : Int).tmod 8 == 0, 8), (decide (8 * k ≤ 8388608 - (bs.length : Int)), 7)]
/-- The bits of a little number. -/
def littleBits (v k : Nat) : List Bool := (List.range (8 * k)).map (lbit v)

theorem littleE_cnt (bs : List Bool) (v k cnt : Int) (h : 1 ≤ k ∧ k ≤ 4 → cnt = 8 * k) : firstE ([(true, 1), (littleOk v k, 2), ((bs.length : Int).tmod 8 == 0, 8)] ++ [(decide (cnt ≤ 8388608 - (bs.length : Int)), 7)]) = littleE bs v k := by
  unfold littleE
  cases ho : littleOk v k
  · rfl
  · have : 1 ≤ k ∧ k ≤ 4 := by simp [littleOk] at ho; omega
    rw [h this]
    rfl

theorem little_err (B g : Nat) (val : Value) (bs : List Bool) (v k : Int) (w : World) (hw : WS w B g 63 [.bool true] val bs) (hm : bs.length ≤ 8388608) (hE : littleE bs v k ≠ 0) :
    Calls Try.prog 17 #[.pointer (some ⟨g, 0, none⟩), .int .i64 v, .int .i64 k] w fun e w' => ∃ x, e = .returned (.int .i64 x) ∧ (x = littleE bs v k ∧ Below w.heap.size w w') := by
  refine little_walk (some ⟨g, 0, none⟩) v k bs.length true (fun x w' => x = littleE bs v k ∧ Below w.heap.size w w') w (nil_below hw.blk) (len_below hw.blk) fun b W cnt hcnt hb hc h1 h2 => ?_
  refine (write_err (some ⟨g, 0, none⟩) _ cnt bs.length (littleE bs v k) b 3 _ W hc rfl (by omega) (by omega) (fun W2 hb2 => len_below hw.blk W2 (hb.trans (hb2.mono hb.size))) (by omega) (by omega) (littleE_cnt bs v k cnt hcnt) (by simpa using hE)).mono ?_
  rintro e w' ⟨rfl, h⟩
  exact ⟨_, rfl, (h1.below h h1.lt).cell 0, (h2.below h h2.lt).cell 0, rfl, hb.trans (h.mono hb.size)⟩

theorem little_none (p : Option Addr) (v k : Int) (w : World) (h36 : ∀ W, Below w.heap.size w W → Calls Try.prog 36 #[.pointer p] W fun e w' => e = .returned (.bool false) ∧ W = w') :
    Calls Try.prog 17 #[.pointer p, .int .i64 v, .int .i64 k] w fun e w' => ∃ x, e = .returned (.int .i64 x) ∧ (x = 1 ∧ Below w.heap.size w w') := by
  refine little_walk p v k 0 false (fun x w' => x = 1 ∧ Below w.heap.size w w') w h36 (fun W hb => wlen_none _ W (h36 W hb)) fun b W cnt hcnt hb hc h1 h2 => ?_
  refine (write_err p _ cnt 0 1 b 3 _ W hc rfl (by omega) (by omega) (fun W2 hb2 => wlen_none _ W2 (h36 W2 (hb.trans (hb2.mono hb.size)))) (by omega) (by omega) rfl rfl).mono ?_
  rintro e w' ⟨rfl, h⟩
  exact ⟨_, rfl, (h1.below h h1.lt).cell 0, (h2.below h h2.lt).cell 0, rfl, hb.trans (h.mono hb.size)⟩

theorem little_some (B g : Nat) (val : Value) (bs : List Bool) (v k : Nat) (w : World) (hw : WS w B g 63 [.bool true] val bs) (hE : littleE bs v k = 0) :
    Calls Try.prog 17 #[.pointer (some ⟨g, 0, none⟩), .int .i64 v, .int .i64 k] w fun e w' => ∃ x, e = .returned (.int .i64 x) ∧ (x = 0 ∧ ∃ v', WS w' B g 63 [.bool true] v' (bs ++ littleBits v k) ∧ Two g val w w' ∧ Hat val v' w) := by
  have h1 : littleOk v k = true := by
    cases h : littleOk v k
    · simp [littleE, firstE, h] at hE
    · rfl
  have h5 : ((bs.length : Int).tmod 8 == 0) = true := by
    cases h : ((bs.length : Int).tmod 8 == 0)
    · rw [littleE, h1, h] at hE; simp [firstE] at hE
    · rfl
  have h2 : decide (8 * (k : Int) ≤ 8388608 - (bs.length : Int)) = true := by
    cases h : decide (8 * (k : Int) ≤ 8388608 - (bs.length : Int))
    · rw [littleE, h1, h5, h] at hE; simp [firstE] at hE
    · rfl
  have h3 : 1 ≤ k ∧ k ≤ 4 ∧ v < 2 ^ (8 * k) := by
    simp [littleOk] at h1
    refine ⟨by omega, by omega, ?_⟩
    have hP : (2 : Int) ^ (8 * k) = ((2 ^ (8 * k) : Nat) : Int) := by simp
    rw [hP] at h1
    omega
  have h4 : v < 4294967296 := Nat.lt_of_lt_of_le h3.2.2 (show 2 ^ (8 * k) ≤ 2 ^ 32 from Nat.pow_le_pow_right (by omega) (by omega))
  have hs := hw.blk.lt
  refine little_walk (some ⟨g, 0, none⟩) v k bs.length true _ w (nil_below hw.blk) (len_below hw.blk) fun b W cnt hcnt hb hc hv hk => ?_
  obtain rfl : cnt = ((8 * k : Nat) : Int) := by rw [hcnt (by omega)]; omega
  have hwW := hw.below hb (Nat.le_refl _)
  refine (write_ok B g val bs (lbit v) (8 * k) 41 _ b 3 _ W hc rfl (by omega) (by omega) hwW (by rw [h1, h5]; rfl) (by simp at h2; omega) (enters_of Try.func41 (by kernel_rfl) rfl) (fun W2 hb2 => ?_)).mono ?_
  · exact Iter.mono_kp (little_iter W2 (w.heap.size + 1) w.heap.size v k h4 h3.1 h3.2.1 (hk.below hb2 hk.lt) (hv.below hb2 hv.lt)) fun vs X Y hkp => ⟨hkp.keeps, fun q t cs hq ht => hkp.kept q t cs hq (by rcases ht with rfl | rfl <;> decide) (by rcases ht with rfl | rfl <;> decide)⟩
  · rintro e w' ⟨rfl, v', k1, k2, k3⟩
    have hv2 : Blk w' w.heap.size 3 _ := (k2.block _ hv.lt (by omega) (own_not_blk hwW.own hv (by decide))).trans hv
    have hk2 : Blk w' (w.heap.size + 1) 3 _ := (k2.block _ hk.lt (by omega) (own_not_blk hwW.own hk (by decide))).trans hk
    refine ⟨_, rfl, hv2.cell 0, hk2.cell 0, rfl, v', k1, Two.of_below hb k2, ?_⟩
    rcases k3 with k3 | k3
    · exact .inl k3
    · exact .inr fun k hk => Nat.le_trans hb.size (k3 k hk)
end Go.Proofs.Ythgbnpafhkhjpaa
