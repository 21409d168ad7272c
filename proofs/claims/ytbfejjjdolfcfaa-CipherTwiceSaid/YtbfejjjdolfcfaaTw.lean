/- The plain law of CipherTwice: a stream twice, in parts, and one byte changed. -/
import Derived.Test.YtbfejjjdolfcfaaXo3
namespace Go.Proofs.Ytbfejjjdolfcfaa
open Go.RowKit
set_option linter.unusedVariables false
set_option linter.unusedSimpArgs false

theorem xorS_length (key : Int) (a : Nat) (l : List UInt8) : (xorS key a l).length = l.length := by
  unfold xorS; split <;> simp [xorL_length]
theorem u8_xor_twice (x y : UInt8) : x ^^^ y ^^^ y = x := by
  rw [UInt8.xor_assoc, UInt8.xor_self, UInt8.xor_zero]
theorem xorS_twice (key : Int) (a : Nat) (l : List UInt8) : xorS key a (xorS key a l) = l := by
  unfold xorS
  split
  · rfl
  · apply List.ext_getElem
    · simp [xorL_length]
    · intro i h1 h2
      simp [xorL, u8_xor_twice]
theorem xorS_split (key : Int) (a m : Nat) (l : List UInt8) (hm : m ≤ l.length) : xorS key a (l.take m) ++ xorS key (a + m) (l.drop m) = xorS key a l := by
  unfold xorS
  split
  · exact List.take_append_drop m l
  · apply List.ext_getElem
    · simp [xorL_length]; omega
    · intro i h1 h2
      rw [List.getElem_append]
      split
      · rename_i h
        simp [xorL]
      · rename_i h
        simp [xorL_length, Nat.min_eq_left hm] at h
        have e : (xorL key a (l.take m)).length = m := by rw [xorL_length, List.length_take]; omega
        simp only [xorL, List.getElem_mapIdx, List.getElem_drop, List.length_mapIdx, List.length_take, Nat.min_eq_left hm]
        obtain ⟨d, rfl⟩ : ∃ d, i = m + d := ⟨i - m, by omega⟩
        simp [Nat.add_assoc]
theorem xorS_set (key : Int) (a m : Nat) (l : List UInt8) (y : UInt8) (k : Nat) (hk : k < l.length) (hne : k = m → y ≠ l[k]) : ((xorS key a l)[k]'(by rw [xorS_length]; exact hk) = (xorS key a (l.set m y))[k]'(by rw [xorS_length, List.length_set]; exact hk)) ↔ k ≠ m := by
  have hg : (l.set m y)[k]'(by rw [List.length_set]; exact hk) = if m = k then y else l[k] := List.getElem_set _
  by_cases h0 : key = 0
  · simp only [xorS, if_pos h0, hg]
    by_cases h : m = k
    · subst h; simp; try exact fun e => hne rfl e.symm
    · simp [h, Ne.symm h]; try exact fun e => h e.symm
  · simp only [xorS, if_neg h0, xorL, List.getElem_mapIdx, hg]
    by_cases h : m = k
    · subst h
      simp
      exact fun e => hne rfl e.symm
    · simp [h, Ne.symm h]; try exact fun e => h e.symm
theorem u8_succ_ne (x : UInt8) : x + 1 ≠ x := by
  intro h
  have := congrArg UInt8.toNat h
  simp at this
  have := x.toNat_lt
  omega
theorem u8_succ (x : UInt8) : ((x.toNat : Int) + 1) % 256 = ((x + 1).toNat : Int) := by
  simp [UInt8.toNat_add]
theorem errP_zero {key a n : Int} (h1 : 0 ≤ key) (h2 : key < 4294967296) (h3 : 0 ≤ a) (h4 : a + n ≤ 274877906944) : errP key a n = 0 := by
  have hk : isW key = true := by simp [isW]; omega
  unfold errP
  rw [if_neg (by rw [hk]; simp; omega), if_neg (by omega)]
/-- cipher.Xor, its good case. -/
theorem xor_good (A : Option Addr) (n c a : Nat) (key : Int) (l : List UInt8) (w : World) (hl : l.length = n) (hn : n ≤ 3000) (hb : Holds w A n (l.map u8)) (hc : A = none → c = 0) (h1 : 0 ≤ key) (h2 : key < 4294967296) (h4 : a + n ≤ 274877906944) :
    Calls Try.prog 14 #[.int .i64 key, .int .i64 (a : Int), .slice A n c] w fun e w' => Rowed w 5 n ((xorS key a l).map u8) (fun v => .tuple #[v, .int .i64 0]) e w' := by
  have h := xor_any A n c key a l w hl hn hb hc
  have he : errP key a n = 0 := errP_zero h1 h2 (by omega) (by omega)
  unfold xorR at h
  rw [hl, if_pos he, he, Int.toNat_natCast, xorS_length, hl] at h
  exact h
theorem holds_take {w : World} {A : Option Addr} {n m : Nat} {l : List UInt8} (h : Holds w A n (l.map u8)) (hm : m ≤ n) : Holds w A m ((l.take m).map u8) := by
  have hl : l.length = n := by have := h.1; simpa using this
  refine ⟨by simp; omega, fun hA => ⟨by have := (h.2.1 hA).1; omega, by have := (h.2.1 hA).1; omega⟩, fun b hb j u hu => h.2.2 b hb j u ?_⟩
  have hj : j < m := by have := (List.getElem?_eq_some_iff.1 hu).1; simp at this; omega
  rw [List.map_take, List.getElem?_take] at hu
  simpa [hj] using hu
theorem holds_drop {w : World} {b o n m : Nat} {l : List UInt8} (h : Holds w (some ⟨b, o, none⟩) n (l.map u8)) (hm : m ≤ n) : Holds w (some ⟨b, o + m, none⟩) (n - m) ((l.drop m).map u8) := by
  have hl : l.length = n := by have := h.1; simpa using this
  refine ⟨by simp; omega, fun hA => (by cases hA), fun b' hb j u hu => ?_⟩
  cases hb
  rw [List.map_drop, List.getElem?_drop] at hu
  have := h.2.2 _ rfl _ _ hu
  rw [Addr.add_lit] at this ⊢
  rw [show o + m + j = o + (m + j) by omega]
  exact this
end Go.Proofs.Ytbfejjjdolfcfaa
