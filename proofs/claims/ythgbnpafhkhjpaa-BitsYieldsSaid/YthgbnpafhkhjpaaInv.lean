/- BitsInverts in plain Lean: what calls wrote is read in the same way. No program. -/
import Derived.Test.YthgbnpafhkhjpaaAct
import Derived.Test.YthgbnpafhkhjpaaJn
namespace Go.Proofs.Ythgbnpafhkhjpaa
open Go.RowKit

/-- The bits of calls, one behind the other. -/
def wroteL (D : List ActV) : List Bool := D.foldl (fun bs X => bs ++ wB bs X) []
theorem wroteL_nil : wroteL [] = [] := rfl
theorem wroteL_snoc (D : List ActV) (X : ActV) : wroteL (D ++ [X]) = wroteL D ++ wB (wroteL D) X := by simp [wroteL]
theorem foldl_wrote : ∀ (D : List ActV) (bs : List Bool), ∃ C, D.foldl (fun bs X => bs ++ wB bs X) bs = bs ++ C
  | [], bs => ⟨[], by simp⟩
  | X :: D, bs => by
    obtain ⟨C, hC⟩ := foldl_wrote D (bs ++ wB bs X)
    exact ⟨wB bs X ++ C, by rw [List.foldl_cons, hC, List.append_assoc]⟩
theorem wroteL_split (D : List ActV) (i : Nat) (h : i < D.length) : ∃ C, wroteL D = wroteL (D.take i) ++ wB (wroteL (D.take i)) D[i] ++ C := by
  obtain ⟨C, hC⟩ := foldl_wrote (D.drop (i + 1)) (wroteL (D.take (i + 1)))
  refine ⟨C, ?_⟩
  have h1 : wroteL D = (D.drop (i + 1)).foldl (fun bs X => bs ++ wB bs X) (wroteL (D.take (i + 1))) := by
    unfold wroteL
    rw [← List.foldl_append, List.take_append_drop]
  rw [h1, hC, ← wroteL_snoc, List.take_append_getElem h]
theorem wroteL_take (D : List ActV) (i : Nat) (h : i < D.length) : wroteL (D.take (i + 1)) = wroteL (D.take i) ++ wB (wroteL (D.take i)) D[i] := by
  rw [← wroteL_snoc, List.take_append_getElem h]
/-- All of the calls are written without an error. -/
def Fine (D : List ActV) : Prop := ∀ i (h : i < D.length), wE (wroteL (D.take i)) D[i] = 0
theorem Fine.nil : Fine [] := fun i h => absurd h (Nat.not_lt_zero i)
theorem Fine.snoc {D : List ActV} {X : ActV} (h : Fine D) (hX : wE (wroteL D) X = 0) : Fine (D ++ [X]) := by
  intro i hi
  rw [List.length_append, List.length_singleton] at hi
  by_cases h1 : i < D.length
  · rw [List.getElem_append_left h1, List.take_append_of_le_length (by omega)]
    exact h i h1
  · obtain rfl : i = D.length := by omega
    rw [List.getElem_append_right (Nat.le_refl _)]
    simpa using hX

theorem pack_len8 (bs : List Bool) : bs.length ≤ 8 * (pack bs).length ∧ 8 * (pack bs).length < bs.length + 8 := by rw [pack_length]; omega

theorem inv_get (P C : List Bool) (v n : Nat) (h1 : 1 ≤ n) (h2 : n ≤ 32) (hv : v < 2 ^ n) :
    rE (pack (P ++ numBits v n ++ C)) P.length (getC n) n = 0 ∧ rN (rE (pack (P ++ numBits v n ++ C)) P.length (getC n) n) n = n ∧ bitsV (cut (pack (P ++ numBits v n ++ C)) P.length n) = v := by
  have hl := (pack_len8 (P ++ numBits v n ++ C)).1
  rw [List.length_append, List.length_append, numBits_length] at hl
  obtain ⟨a, b⟩ := get_fine (pack (P ++ numBits v n ++ C)) P.length n h1 h2 (by omega)
  have hc := cut_mid P (numBits v n) C
  rw [numBits_length] at hc
  exact ⟨a, b, by rw [hc, bitsV_num n v hv]⟩

theorem take_fine (l : List UInt8) (p k : Nat) (a b : Int) (h1 : a ≤ k) (h2 : (k : Int) ≤ b) (h3 : p % 8 = 0) (h4 : k ≤ 8388608) (h : p + 8 * k ≤ 8 * l.length) : rE l p (takeC k a b p) (takeN k) = 0 ∧ rN (rE l p (takeC k a b p) (takeN k)) (takeN k) = 8 * k := by
  have hN : takeN k = ((8 * k : Nat) : Int) := by unfold takeN; omega
  have h0 : rE l p (takeC k a b p) (takeN k) = 0 := by
    unfold rE
    apply firstE_true
    intro c hc
    simp [takeC] at hc
    rcases hc with rfl | rfl | rfl | rfl
    · rfl
    · simp; omega
    · simp; rw [Int.tmod_eq_emod_of_nonneg (by omega)]; omega
    · simp only [decide_eq_true_eq]; rw [hN]; omega
  exact ⟨h0, by unfold rN; rw [if_pos h0, hN]; rfl⟩

theorem little_byteK (v k j : Nat) (hj : j < k) : byteV (littleBits v k) j = v / 256 ^ j % 256 := by
  have h256 : 256 ^ j = 2 ^ (8 * j) := by rw [Nat.pow_mul]
  rw [h256]
  apply byteV_bits
  intro r hr
  rw [getD_get _ _ _ (by simp [littleBits]; omega)]
  simp only [littleBits, List.getElem_map, List.getElem_range, lbit, nbit]
  rw [show (8 * j + r) / 8 = j by omega, show (8 * j + r) % 8 = r by omega]
theorem leV_range : ∀ (k v : Nat), v < 256 ^ k → leV ((List.range k).map fun j => UInt8.ofNat (v / 256 ^ j % 256)) = v
  | 0, v, h => by simp at h; subst h; rfl
  | k + 1, v, h => by
    rw [List.range_succ_eq_map, List.map_cons, List.map_map]
    have e : ((fun j => UInt8.ofNat (v / 256 ^ j % 256)) ∘ Nat.succ) = fun j => UInt8.ofNat ((v / 256) / 256 ^ j % 256) := by
      funext j
      simp only [Function.comp, Nat.succ_eq_add_one]
      rw [Nat.div_div_eq_div_mul, Nat.pow_succ']
    rw [e, leV, leV_range k (v / 256) (by rw [Nat.pow_succ] at h; omega), byte_of _ (by omega)]
    simp
    omega
theorem leV_little (v k : Nat) (hv : v < 2 ^ (8 * k)) : leV (pack (littleBits v k)) = v := by
  have hl : (littleBits v k).length = 8 * k := by simp [littleBits]
  have : pack (littleBits v k) = (List.range k).map fun j => UInt8.ofNat (v / 256 ^ j % 256) := by
    unfold pack
    rw [hl, show (8 * k + 7) / 8 = k by omega]
    apply List.map_congr_left
    intro j hj
    rw [little_byteK v k j (List.mem_range.1 hj)]
  rw [this]
  exact leV_range k v (by rw [Nat.pow_mul] at hv; exact hv)

theorem inv_little (P C : List Bool) (v k : Nat) (h1 : 1 ≤ k) (h2 : k ≤ 4) (hv : v < 2 ^ (8 * k)) (h8 : P.length % 8 = 0) :
    rE (pack (P ++ littleBits v k ++ C)) P.length (takeC k 1 4 P.length) (takeN k) = 0 ∧ rN (rE (pack (P ++ littleBits v k ++ C)) P.length (takeC k 1 4 P.length) (takeN k)) (takeN k) = 8 * k ∧ leV (pack (cut (pack (P ++ littleBits v k ++ C)) P.length (8 * k))) = v := by
  have hk : (littleBits v k).length = 8 * k := by simp [littleBits]
  have hl := (pack_len8 (P ++ littleBits v k ++ C)).1
  rw [List.length_append, List.length_append, hk] at hl
  obtain ⟨a, b⟩ := take_fine (pack (P ++ littleBits v k ++ C)) P.length k 1 4 (by omega) (by omega) h8 (by omega) (by omega)
  have hc := cut_mid P (littleBits v k) C
  rw [hk] at hc
  exact ⟨a, b, by rw [hc, leV_little v k hv]⟩
theorem inv_take (P C : List Bool) (l : List UInt8) (hm : l.length ≤ 8388608) (h8 : P.length % 8 = 0) :
    rE (pack (P ++ ubits l ++ C)) P.length (takeC l.length 0 l.length P.length) (takeN l.length) = 0 ∧ rN (rE (pack (P ++ ubits l ++ C)) P.length (takeC l.length 0 l.length P.length) (takeN l.length)) (takeN l.length) = 8 * l.length ∧ pack (cut (pack (P ++ ubits l ++ C)) P.length (8 * l.length)) = l := by
  have hl := (pack_len8 (P ++ ubits l ++ C)).1
  rw [List.length_append, List.length_append, ubits_length] at hl
  obtain ⟨a, b⟩ := take_fine (pack (P ++ ubits l ++ C)) P.length l.length 0 l.length (by omega) (by omega) h8 (by omega) (by omega)
  have hc := cut_mid P (ubits l) C
  rw [ubits_length] at hc
  exact ⟨a, b, by rw [hc, pack_ubits]⟩
theorem pad_fine (l : List UInt8) (p : Nat) (n : Int) (ha : alignOk n = true) (h : p + alignN p n ≤ 8 * l.length) (hc : true ∉ cut l p (alignN p n)) : padE l p n = 0 ∧ padN l p n = alignN p n := by
  have h0 : rE l p (padC n) (alignN p n) = 0 := by
    unfold rE
    apply firstE_true
    intro c hc
    simp [padC] at hc
    rcases hc with rfl | rfl | rfl
    · rfl
    · exact ha
    · simp; omega
  have h1 : padE l p n = 0 := by unfold padE; rw [if_pos h0, if_neg hc]
  exact ⟨h1, by unfold padN; rw [if_pos h1]⟩
theorem inv_pad (P C : List Bool) (n : Int) (ha : alignOk n = true) : padE (pack (P ++ List.replicate (alignN P.length n) false ++ C)) P.length n = 0 ∧ padN (pack (P ++ List.replicate (alignN P.length n) false ++ C)) P.length n = alignN P.length n := by
  have hl := (pack_len8 (P ++ List.replicate (alignN P.length n) false ++ C)).1
  rw [List.length_append, List.length_append, List.length_replicate] at hl
  have hc := cut_mid P (List.replicate (alignN P.length n) false) C
  rw [List.length_replicate] at hc
  refine pad_fine _ _ _ ha (by omega) ?_
  rw [hc]
  intro h
  have := List.eq_of_mem_replicate h
  cases this
theorem alignN8 (m : Nat) : alignN m 8 = (m + 7) / 8 * 8 - m := by
  unfold alignN upTo
  rw [if_pos (by decide)]
  show (m + 8 - 1) / 8 * 8 - m = _
  rw [show m + 8 - 1 = m + 7 by omega]
theorem inv_end (bs : List Bool) : padE (pack bs) bs.length 8 = 0 ∧ bs.length + padN (pack bs) bs.length 8 = 8 * (pack bs).length := by
  have h8 := alignN8 bs.length
  have hl := pack_length bs
  obtain ⟨a, b⟩ := pad_fine (pack bs) bs.length 8 (by decide) (by omega) (by
    intro h
    simp only [cut, List.mem_map, List.mem_range] at h
    obtain ⟨i, hi, hb⟩ := h
    rw [bbit_pack _ _ (by omega), getD_out _ _ _ (by omega)] at hb
    cases hb)
  exact ⟨a, by rw [b]; omega⟩
end Go.Proofs.Ythgbnpafhkhjpaa
