/- The contract of (*Writer).Align, whole; a new writer, Out, Copy. -/
import Derived.Test.YthgbnpafhkhjpaaAln
namespace Go.Proofs.Ythgbnpafhkhjpaa
open Go.RowKit
set_option linter.unusedVariables false
set_option linter.unusedSimpArgs false

def alignE (bs : List Bool) (n : Int) : Int := firstE [(true, 1), (alignOk n, 2), (decide ((alignN bs.length n : Int) ≤ 8388608 - (bs.length : Int)), 7)]

theorem align_err (B g : Nat) (val : Value) (bs : List Bool) (n : Int) (w : World) (hw : WS w B g 63 [.bool true] val bs) (hm : bs.length ≤ 8388608) (hE : alignE bs n ≠ 0) :
    Calls Try.prog 33 #[.pointer (some ⟨g, 0, none⟩), .int .i64 n] w fun e w' => ∃ x, e = .returned (.int .i64 x) ∧ (x = alignE bs n ∧ Below w.heap.size w w') := by
  refine align_walk (some ⟨g, 0, none⟩) n bs.length true (fun x w' => x = alignE bs n ∧ Below w.heap.size w w') w hm (nil_below hw.blk) (len_below hw.blk) fun b Pb Sb k W _ hb hc _ _ _ _ _ _ => ?_
  refine (write_err (some ⟨g, 0, none⟩) _ _ bs.length (alignE bs n) b 2 _ W hc rfl (by omega) (by omega) (fun W2 hb2 => len_below hw.blk W2 (hb.trans (hb2.mono hb.size))) (by omega) (by omega) rfl (by simpa using hE)).mono ?_
  rintro e w' ⟨rfl, h⟩
  exact ⟨_, rfl, rfl, hb.trans (h.mono hb.size)⟩

theorem align_none (p : Option Addr) (n : Int) (w : World) (h36 : ∀ W, Below w.heap.size w W → Calls Try.prog 36 #[.pointer p] W fun e w' => e = .returned (.bool false) ∧ W = w') :
    Calls Try.prog 33 #[.pointer p, .int .i64 n] w fun e w' => ∃ x, e = .returned (.int .i64 x) ∧ (x = 1 ∧ Below w.heap.size w w') := by
  refine align_walk p n 0 false (fun x w' => x = 1 ∧ Below w.heap.size w w') w (by omega) h36 (fun W hb => wlen_none _ W (h36 W hb)) fun b Pb Sb k W _ hb hc _ _ _ _ _ _ => ?_
  refine (write_err p _ _ 0 1 b 2 _ W hc rfl (by omega) (by omega) (fun W2 hb2 => wlen_none _ W2 (h36 W2 (hb.trans (hb2.mono hb.size)))) (by omega) (by omega) rfl rfl).mono ?_
  rintro e w' ⟨rfl, h⟩
  exact ⟨_, rfl, rfl, hb.trans (h.mono hb.size)⟩

theorem bbit_zeros (k i : Nat) : bbit (List.replicate k 0) i = false := by
  unfold bbit
  have : (List.replicate k (0 : UInt8)).getD (i / 8) 0 = 0 := by
    rw [List.getD_eq_getElem?_getD, List.getElem?_replicate]
    split <;> rfl
  rw [this]
  simp
theorem range_zeros (k u : Nat) : (List.range u).map (bbit (List.replicate k 0)) = List.replicate u false := by
  apply List.ext_getElem
  · simp
  · intro i h1 h2
    simp [bbit_zeros]

theorem align_some (B g : Nat) (val : Value) (bs : List Bool) (n : Int) (w : World) (hw : WS w B g 63 [.bool true] val bs) (hm : bs.length ≤ 8388608) (hE : alignE bs n = 0) :
    Calls Try.prog 33 #[.pointer (some ⟨g, 0, none⟩), .int .i64 n] w fun e w' => ∃ x, e = .returned (.int .i64 x) ∧ (x = 0 ∧ ∃ v', WS w' B g 63 [.bool true] v' (bs ++ List.replicate (alignN bs.length n) false) ∧ Two g val w w' ∧ Hat val v' w) := by
  have h1 : alignOk n = true := by
    cases h : alignOk n
    · simp [alignE, firstE, h] at hE
    · rfl
  have h2 : decide ((alignN bs.length n : Int) ≤ 8388608 - (bs.length : Int)) = true := by
    cases h : decide ((alignN bs.length n : Int) ≤ 8388608 - (bs.length : Int))
    · rw [alignE, h1, h] at hE; simp [firstE] at hE
    · rfl
  have hgs := hw.blk.lt
  refine align_walk (some ⟨g, 0, none⟩) n bs.length true _ w hm (nil_below hw.blk) (len_below hw.blk) fun b Pb Sb k W hk hb hc hPl hSl hP hS h61 hz => ?_
  have hwW := hw.below hb (Nat.le_refl _)
  refine (write_ok B g val bs (bbit (List.replicate k 0)) (alignN bs.length n) 65 _ b 2 _ W hc rfl (by omega) (by omega) hwW (by rw [h1]; rfl) (by simp at h2; omega) (enters_of Try.func65 (by kernel_rfl) rfl) (fun W2 hb2 => ?_)).mono ?_
  · have hz2 := hz.keep hb2
    have hc0 := hz.2.2 _ rfl 0 (u8 0) (by subst hk; simp)
    rw [Addr.add_lit, Nat.add_zero] at hc0
    have h := from_iter 99 W2 Pb Sb (w.heap.size + 1) 61 #[.slice (some ⟨w.heap.size, 0, none⟩) k k, .int .i64 (alignN bs.length n : Int)] 0 (alignN bs.length n) k k (some ⟨w.heap.size, 0, none⟩) (List.replicate k 0) (hP.below hb2 hP.lt) (hS.below hb2 hS.lt) (h61.below hb2 h61.lt) rfl rfl hz2 (by omega) (by simp at h2; omega)
    simp only [Nat.zero_add, Nat.sub_zero] at h
    refine h.weaken fun vs X Y hk2 => ⟨hk2.low _ hS.lt (by omega) (own_not_blk hwW.own hS (by decide)), hk2.low _ h61.lt (by omega) (own_not_blk hwW.own h61 (by decide)), fun q hq => ?_⟩
    cases hq
    refine hk2.low w.heap.size (World.block_lt_of_cell? _ _ hc0) (by omega) (fun e => ?_)
    have := own_lt hw.own _ e
    omega
  · rintro e w' ⟨rfl, v', k1, k2, k3⟩
    refine ⟨_, rfl, rfl, v', by rw [← range_zeros k]; exact k1, Two.of_below hb k2, ?_⟩
    rcases k3 with k3 | k3
    · exact .inl k3
    · exact .inr fun k hk => Nat.le_trans hb.size (k3 k hk)
end Go.Proofs.Ythgbnpafhkhjpaa
