/- BitsJoins in plain Lean: bits of numbers side by side. No program. -/
import Derived.Test.YthgbnpafhkhjpaaKn
import Derived.Test.YthgbnpafhkhjpaaOrd
namespace Go.Proofs.Ythgbnpafhkhjpaa
open Go.RowKit

theorem nbit_half (v n i : Nat) (hi : i < n) : nbit v (n + 1) i = nbit (v / 2) n i := by
  unfold nbit
  have h : 2 * 2 ^ (n - 1 - i) = 2 ^ (n - i) := by rw [← Nat.pow_succ', show (n - 1 - i).succ = n - i by omega]
  rw [Nat.div_div_eq_div_mul, h, show n + 1 - 1 - i = n - i by omega]
theorem numBits_snoc (v n : Nat) : numBits v (n + 1) = numBits (v / 2) n ++ [v % 2 == 1] := by
  unfold numBits
  rw [range_snoc]
  congr 1
  · apply List.map_congr_left
    intro i hi
    exact nbit_half v n i (List.mem_range.1 hi)
  · unfold nbit
    rw [show n + 1 - 1 - n = 0 by omega]
    simp
theorem bitsV_num : ∀ (n v : Nat), v < 2 ^ n → bitsV (numBits v n) = v
  | 0, v, h => by simp at h; subst h; rfl
  | n + 1, v, h => by
    rw [numBits_snoc, bitsV_snoc, bitsV_num n (v / 2) (by rw [Nat.pow_succ] at h; omega)]
    rcases Nat.mod_two_eq_zero_or_one v with hv | hv <;> rw [hv] <;> simp <;> omega
theorem numBits_append (x m y : Nat) : ∀ n, y < 2 ^ n → numBits (x * 2 ^ n + y) (m + n) = numBits x m ++ numBits y n := by
  intro n
  induction n generalizing y with
  | zero => intro h; simp at h; subst h; simp [numBits]
  | succ n ih =>
    intro h
    rw [← Nat.add_assoc, numBits_snoc, numBits_snoc]
    have h0 : x * 2 ^ (n + 1) = 2 * (x * 2 ^ n) := by rw [Nat.pow_succ', Nat.mul_left_comm]
    have h1 : (x * 2 ^ (n + 1) + y) / 2 = x * 2 ^ n + y / 2 := by rw [h0]; omega
    have h2 : (x * 2 ^ (n + 1) + y) % 2 = y % 2 := by rw [h0]; omega
    rw [h1, h2, ih (y / 2) (by rw [Nat.pow_succ] at h; omega), List.append_assoc]
theorem cut_of (bs : List Bool) (p c : Nat) (h : p + c ≤ bs.length) : cut (pack bs) p c = (bs.drop p).take c := by
  apply List.ext_getElem
  · simp [cut, Nat.min_def]; omega
  · intro i h1 h2
    have hi : i < c := by simpa [cut] using h1
    simp only [cut, List.getElem_map, List.getElem_range, List.getElem_take, List.getElem_drop]
    rw [bbit_pack _ _ (by rw [pack_length]; omega), getD_get _ _ _ (by omega)]
theorem cut_mid (A B C : List Bool) : cut (pack (A ++ B ++ C)) A.length B.length = B := by
  rw [cut_of _ _ _ (by simp), List.append_assoc, List.drop_left, List.take_left]
theorem firstE_true : ∀ (cs : List (Bool × Int)), (∀ c ∈ cs, c.1 = true) → firstE cs = 0
  | [], _ => rfl
  | (true, _) :: cs, h => firstE_true cs fun c hc => h c (by simp [hc])
  | (false, e) :: cs, h => by have := h (false, e) (by simp); cases this
theorem get_fine (l : List UInt8) (p n : Nat) (h1 : 1 ≤ n) (h2 : n ≤ 32) (h : p + n ≤ 8 * l.length) : rE l p (getC n) n = 0 ∧ rN (rE l p (getC n) n) n = n := by
  have h0 : rE l p (getC n) n = 0 := by
    unfold rE
    apply firstE_true
    intro c hc
    simp [getC] at hc
    rcases hc with rfl | rfl | rfl
    · rfl
    · simp; omega
    · simp; omega
  exact ⟨h0, by unfold rN; rw [if_pos h0]; rfl⟩
theorem skip_fine (l : List UInt8) (p n : Nat) (h : p + n ≤ 8 * l.length) : rE l p (skipC n) n = 0 ∧ rN (rE l p (skipC n) n) n = n := by
  have h0 : rE l p (skipC n) n = 0 := by
    unfold rE
    apply firstE_true
    intro c hc
    simp [skipC] at hc
    rcases hc with rfl | rfl | rfl
    · rfl
    · simp
    · simp; omega
  exact ⟨h0, by unfold rN; rw [if_pos h0]; rfl⟩
theorem put_fine (bs : List Bool) (v n : Nat) (h1 : 1 ≤ n) (h2 : n ≤ 32) (hv : v < 2 ^ n) (h : bs.length + n ≤ 8388608) : putE bs v n = 0 := by
  unfold putE
  apply firstE_true
  intro c hc
  simp at hc
  rcases hc with rfl | rfl | rfl
  · rfl
  · have hP : (2 : Int) ^ n = ((2 ^ n : Nat) : Int) := by simp
    simp only [putOk, Int.toNat_natCast, Bool.and_eq_true, decide_eq_true_eq]
    rw [hP]
    omega
  · simp; omega
theorem little_fine (v : Nat) (hv : v < 2 ^ 32) : littleE [] v 4 = 0 := by
  unfold littleE
  apply firstE_true
  intro c hc
  simp at hc
  rcases hc with rfl | rfl | rfl | rfl
  · rfl
  · simp only [littleOk, Bool.and_eq_true, decide_eq_true_eq]
    simp at hv ⊢
    omega
  · simp
  · decide
/-- Byte j of bits that are those of y. -/
theorem byteV_bits (bs : List Bool) (j y : Nat) (h : ∀ r, r < 8 → bs.getD (8 * j + r) false = (y / 2 ^ (7 - r) % 2 == 1)) : byteV bs j = y % 256 := by
  unfold byteV
  rw [← byte_sum (y % 256) (Nat.mod_lt _ (by decide)), bitsV8, bitsV8, h 0 (by omega), h 1 (by omega), h 2 (by omega), h 3 (by omega), h 4 (by omega), h 5 (by omega), h 6 (by omega), h 7 (by omega)]
  have e : ∀ k, k < 8 → y % 256 / 2 ^ k % 2 = y / 2 ^ k % 2 := fun k hk => by
    rcases (show k = 0 ∨ k = 1 ∨ k = 2 ∨ k = 3 ∨ k = 4 ∨ k = 5 ∨ k = 6 ∨ k = 7 by omega) with rfl | rfl | rfl | rfl | rfl | rfl | rfl | rfl <;> simp <;> omega
  rw [e 7 (by omega), e (7 - 1) (by omega), e (7 - 2) (by omega), e (7 - 3) (by omega), e (7 - 4) (by omega), e (7 - 5) (by omega), e (7 - 6) (by omega), e (7 - 7) (by omega)]
theorem big_byte (v j : Nat) (hj : j < 4) : byteV (numBits v 32) j = v / 2 ^ (24 - 8 * j) % 256 := by
  apply byteV_bits
  intro r hr
  rw [getD_get _ _ _ (by rw [numBits_length]; omega)]
  simp only [numBits, List.getElem_map, List.getElem_range, nbit]
  rw [Nat.div_div_eq_div_mul, ← Nat.pow_add, show 24 - 8 * j + (7 - r) = 32 - 1 - (8 * j + r) by omega]
theorem little_byte (v j : Nat) (hj : j < 4) : byteV (littleBits v 4) j = v / 2 ^ (8 * j) % 256 := by
  apply byteV_bits
  intro r hr
  rw [getD_get _ _ _ (by simp [littleBits]; omega)]
  simp only [littleBits, List.getElem_map, List.getElem_range, lbit, nbit]
  rw [show (8 * j + r) / 8 = j by omega, show (8 * j + r) % 8 = r by omega]
theorem bytes_turn (v j : Nat) (hj : j < 4) : byteV (littleBits v 4) j = byteV (numBits v 32) (3 - j) := by
  rw [big_byte _ _ (by omega), little_byte _ _ hj, show 24 - 8 * (3 - j) = 8 * j by omega]

/-- The conditions that are to hold may be turned on the way. -/
theorem wpG_mono {P : Program} {ops : Array Oper} {Q : Exit → Act → World → Prop} {md : Region.Mode} {S T : World → Prop} {c c' : Nat} (hST : ∀ w, S w → T w) : ∀ (fuel : Nat) (listed : Array Bool) (a : Act) (w : World),
    wpG P md ops Q S S c fuel listed a w → wpG P md ops Q T T c' fuel listed a w
  | 0, _, _, _, h => h
  | fuel + 1, listed, _, _, h => ⟨h.1, fun i hi => wpOp_mono (fun a' w' h' => ⟨⟨fun _ => hST _ (by
      cases hb : (listed.setIfInBounds i true).getD c true with
      | false => exact h'.1.1 hb
      | true => exact h'.1.2 hb), fun _ => hST _ (by
      cases hb : (listed.setIfInBounds i true).getD c true with
      | false => exact h'.1.1 hb
      | true => exact h'.1.2 hb)⟩, wpG_mono hST fuel _ a' w' h'.2⟩) (h.2 i hi)⟩
theorem wpG_switch {P : Program} {ops : Array Oper} {Q : Exit → Act → World → Prop} {md : Region.Mode} {S0 S1 : World → Prop} {c c' : Nat} : ∀ (fuel : Nat) (listed : Array Bool) (a : Act) (w : World),
    wpG P md ops Q S0 S1 c fuel listed a w → wpG P md ops Q (fun _ => True) (fun _ => True) c' fuel listed a w
  | 0, _, _, _, h => h
  | fuel + 1, _, _, _, h => ⟨h.1, fun i hi => wpOp_mono (fun a' w' h' => ⟨⟨fun _ => trivial, fun _ => trivial⟩, wpG_switch fuel _ a' w' h'.2⟩) (h.2 i hi)⟩
end Go.Proofs.Ythgbnpafhkhjpaa
