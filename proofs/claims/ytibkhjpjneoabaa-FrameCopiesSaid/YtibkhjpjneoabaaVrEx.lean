/- The plain law of VarintGoes. No walk. Plain laws for VarintExact: what is read of a form with bytes behind it; no form begins the next one. -/
import Derived.Test.YtibkhjpjneoabaaVrRBeg
import Derived.Test.YtibkhjpjneoabaaVrRRead
import Derived.Test.YtibkhjpjneoabaaVrRefF
namespace Go.Proofs.Ytibkhjpjneoabaa.Vr
open Go.RowKit

theorem bump_iff {low st lo hi : Int} (hst : 1 ≤ st) : bump low st lo ≤ hi ∧ lo ≤ hi ↔ ∃ j : Nat, lo ≤ low + st * j ∧ low + st * j ≤ hi := by
  unfold bump
  constructor
  · rintro ⟨h, hlh⟩
    split at h
    · rename_i hlt
      have hq0 : 0 ≤ (lo - low + st - 1) / st := Int.ediv_nonneg (by omega) (by omega)
      have hq1 : lo - low + st - 1 < ((lo - low + st - 1) / st + 1) * st := Int.lt_ediv_add_one_mul_self _ (by omega)
      refine ⟨((lo - low + st - 1) / st).toNat, ?_⟩
      rw [Int.toNat_of_nonneg hq0, Int.mul_comm]
      rw [Int.add_mul, Int.one_mul] at hq1
      omega
    · exact ⟨0, by simp; omega⟩
  · rintro ⟨j, h1, h2⟩
    have hj : (0 : Int) ≤ st * j := Int.mul_nonneg (by omega) (by omega)
    refine ⟨?_, by omega⟩
    split
    · have hq : (lo - low + st - 1) / st < (j : Int) + 1 := Int.ediv_lt_of_lt_mul (by omega) (by rw [Int.add_mul, Int.one_mul, Int.mul_comm]; omega)
      have hm : (lo - low + st - 1) / st * st ≤ (j : Int) * st := Int.mul_le_mul_of_nonneg_right (by omega) (by omega)
      rw [Int.mul_comm (j : Int)] at hm
      omega
    · omega

theorem ix_snoc_found {l : List UInt8} {k : Nat} (x : UInt8) (h : ix l = (k : Int)) : ix (l ++ [x]) = (k : Int) := by
  rcases ix_cases l with ⟨h1, _⟩ | ⟨k', hk, h1, h2, h3⟩
  · omega
  · obtain rfl : k' = k := by omega
    refine ix_some (by simp; omega) (fun i hi => ?_) ?_
    · rw [List.getElem_append_left (by omega)]; exact h3 i hi
    · rw [List.getElem_append_left hk]; exact h2
theorem readS_snoc_done {l : List UInt8} {loose : Bool} (x : UInt8) (h : (readS l loose).2.2 ≠ 4) : readS (l ++ [x]) loose = readS l loose := by
  by_cases h5 : 5 ≤ l.length
  · have e : (l ++ [x]).take 5 = l.take 5 := by rw [List.take_append_of_le_length h5]
    rcases ix_cases (l.take 5) with ⟨hx, _⟩ | ⟨k, hk, hx, _, _⟩
    · rw [readS_long hx h5, readS_long (by rw [e]; exact hx) (by simp; omega)]
    · unfold readS
      simp only [e]
      have h1 : ¬ (k : Int) < 0 := by omega
      simp [hx, h1]
  · have e1 : l.take 5 = l := List.take_of_length_le (by omega)
    have e2 : (l ++ [x]).take 5 = l ++ [x] := List.take_of_length_le (by simp; omega)
    rcases ix_cases l with ⟨hx, _⟩ | ⟨k, hk, hx, _, _⟩
    · exact absurd (by rw [readS_short (by rw [e1]; exact hx) (by omega)]) h
    · have hx2 := ix_snoc_found x hx
      unfold readS
      simp only [e1, e2]
      have h1 : ¬ (k : Int) < 0 := by omega
      simp [hx, hx2, h1, List.getElem?_append_left hk, List.take_append_of_le_length (show k + 1 ≤ l.length by omega)]
theorem readS_4 {l : List UInt8} {loose : Bool} (h : (readS l loose).2.2 = 4) : l.length < 5 ∧ ∀ i (hi : i < l.length), 128 ≤ l[i].toNat := by
  have h5 := readS_e4 l loose h
  refine ⟨h5, ?_⟩
  have e1 : l.take 5 = l := List.take_of_length_le (by omega)
  rcases ix_cases l with ⟨hx, h2⟩ | ⟨k, hk, hx, _, _⟩
  · exact h2
  · exfalso
    unfold readS at h
    have h1 : ¬ (k : Int) < 0 := by omega
    simp only [e1, hx, h1, if_false] at h
    split at h <;> simp at h
theorem ix_snoc_low {l : List UInt8} {x : UInt8} (h : ∀ i (hi : i < l.length), 128 ≤ l[i].toNat) (hx : x.toNat < 128) : ix (l ++ [x]) = (l.length : Int) := by
  refine ix_some (by simp) (fun i hi => ?_) (by simpa using hx)
  rw [List.getElem_append_left hi]
  exact h i hi
theorem ix_snoc_high {l : List UInt8} {x : UInt8} (h : ∀ i (hi : i < l.length), 128 ≤ l[i].toNat) (hx : 128 ≤ x.toNat) : ix (l ++ [x]) = -1 := by
  refine ix_none fun i hi => ?_
  rcases Nat.lt_or_ge i l.length with h1 | h1
  · rw [List.getElem_append_left h1]; exact h i h1
  · have : i = l.length := by simp at hi; omega
    subst this
    simpa using hx
theorem valOf_one (l : List UInt8) (x : UInt8) : valOf (l ++ [x]) = valOf l + 128 ^ l.length * (x.toNat % 128) := by rw [valOf_append]; simp [valOf]

/-- Whether a further byte helps. -/
def goesB (l : List UInt8) (loose : Bool) (lo hi : Int) : Prop := ∃ x : UInt8, (beginsS (l ++ [x]) loose lo hi).1 = true

section
variable {l : List UInt8} {loose : Bool} {lo hi : Int}

theorem begins_ok (hlo : 0 ≤ lo) (hlh : lo ≤ hi) (hhi : hi < 34359738368) : beginsS l loose lo hi = if (readS l loose).2.2 = 0 then (decide ((readS l loose).2.1 = (l.length : Int) ∧ lo ≤ (readS l loose).1 ∧ (readS l loose).1 ≤ hi), 0) else if (readS l loose).2.2 ≠ 4 then (false, 0) else (decide (begLow l loose lo ≤ hi), 0) := by
  unfold beginsS; rw [if_neg (by omega)]
theorem begins_ok2 (hlo : 0 ≤ lo) (hlh : lo ≤ hi) (hhi : hi < 34359738368) : (beginsS l loose lo hi).2 = 0 := by
  rw [begins_ok hlo hlh hhi]
  (repeat' split) <;> rfl

theorem goes_not (hlo : 0 ≤ lo) (hlh : lo ≤ hi) (hhi : hi < 34359738368) (h : (readS l loose).2.2 ≠ 4) (hm : (readS l loose).2.2 = 0 → (readS l loose).2.1 ≤ l.length) : ¬ goesB l loose lo hi := by
  rintro ⟨x, hx⟩
  rw [begins_ok hlo hlh hhi, readS_snoc_done x h] at hx
  split at hx
  · rename_i h0
    have := hm h0
    simp at hx
    omega
  · cases hx

theorem readS_m (h : (readS l loose).2.2 = 0) : (readS l loose).2.1 ≤ l.length := by
  rcases ix_cases (l.take 5) with ⟨hx, _⟩ | ⟨k, hk, hx, _, _⟩
  · exfalso
    unfold readS at h
    simp only [hx] at h
    by_cases h5 : l.length < 5 <;> simp [h5] at h
  · have hkl : k < l.length := by rw [List.length_take] at hk; omega
    unfold readS
    have h1 : ¬ (k : Int) < 0 := by omega
    simp only [hx, h1, if_false]
    split <;> simp <;> omega

/-- The values that are reached: V + st j, j at least 0 or 1. -/
theorem begLow_iff (hlh : lo ≤ hi) : begLow l loose lo ≤ hi ↔ ∃ j : Nat, (loose = false → 0 < l.length → 1 ≤ j) ∧ lo ≤ (valOf l : Int) + ((128 ^ l.length : Nat) : Int) * j ∧ (valOf l : Int) + ((128 ^ l.length : Nat) : Int) * j ≤ hi := by
  have hst : (1 : Int) ≤ ((128 ^ l.length : Nat) : Int) := by have := Nat.pow_pos (n := l.length) (show 0 < 128 by omega); omega
  have hb := bump_iff (low := (valOf l : Int) + (if loose = false ∧ 0 < l.length then ((128 ^ l.length : Nat) : Int) else 0)) (lo := lo) (hi := hi) hst
  unfold begLow
  rw [show (bump ((valOf l : Int) + (if loose = false ∧ 0 < l.length then ((128 ^ l.length : Nat) : Int) else 0)) ((128 ^ l.length : Nat) : Int) lo ≤ hi) ↔ _ from ⟨fun h => hb.1 ⟨h, hlh⟩, fun h => (hb.2 h).1⟩]
  generalize ((128 ^ l.length : Nat) : Int) = st at *
  by_cases hc : loose = false ∧ 0 < l.length
  · rw [if_pos hc]
    constructor
    · rintro ⟨j, h1, h2⟩
      refine ⟨j + 1, fun _ _ => by omega, ?_⟩
      rw [show (((j + 1 : Nat) : Int)) = (j : Int) + 1 by omega, Int.mul_add, Int.mul_one]
      omega
    · rintro ⟨j, h0, h1, h2⟩
      have hj := h0 hc.1 hc.2
      obtain ⟨i, rfl⟩ : ∃ i, j = i + 1 := ⟨j - 1, by omega⟩
      rw [show (((i + 1 : Nat) : Int)) = (i : Int) + 1 by omega, Int.mul_add, Int.mul_one] at h1 h2
      exact ⟨i, by omega, by omega⟩
  · rw [if_neg hc, Int.add_zero]
    constructor
    · rintro ⟨j, h1, h2⟩
      exact ⟨j, fun a b => absurd ⟨a, b⟩ hc, h1, h2⟩
    · rintro ⟨j, _, h1, h2⟩
      exact ⟨j, h1, h2⟩

theorem goes_short (hlo : 0 ≤ lo) (hlh : lo ≤ hi) (hhi : hi < 34359738368) (h : (readS l loose).2.2 = 4) : begLow l loose lo ≤ hi ↔ goesB l loose lo hi := by
  obtain ⟨h5, hall⟩ := readS_4 h
  have e2 : ∀ x : UInt8, (l ++ [x]).take 5 = l ++ [x] := fun x => List.take_of_length_le (by simp; omega)
  have hp : 0 < 128 ^ l.length := Nat.pow_pos (by omega)
  rw [begLow_iff hlh]
  constructor
  · rintro ⟨j, h0, h1, h2⟩
    have hj5 : l.length = 4 → j < 128 := fun h4 => by
      rw [h4] at h2
      have e : ((128 ^ 4 : Nat) : Int) = 268435456 := rfl
      rw [e] at h2
      omega
    by_cases hj : j < 128
    · refine ⟨UInt8.ofNat j, ?_⟩
      have hn : (UInt8.ofNat j).toNat = j := by simp; omega
      have hix : ix ((l ++ [UInt8.ofNat j]).take 5) = (l.length : Int) := by rw [e2]; exact ix_snoc_low hall (by omega)
      rw [begins_ok hlo hlh hhi, readS_some hix (by
        rcases loose with _ | _
        · by_cases hl : l.length = 0
          · exact .inr (.inl hl)
          · refine .inr (.inr ?_)
            rw [e2, List.getElem?_append_right (Nat.le_refl _), Nat.sub_self]
            have := h0 rfl (by omega)
            intro he
            simp at he
            have : (UInt8.ofNat j).toNat = 0 := by rw [he]; rfl
            omega
        · exact .inl rfl)]
      rw [e2, List.take_of_length_le (by simp), valOf_one, hn, Nat.mod_eq_of_lt hj]
      simp only [if_true, decide_eq_true_eq]
      refine ⟨by simp, ?_, ?_⟩ <;> (push_cast at *; omega)
    · have h4 : l.length < 4 := by
        rcases Nat.lt_or_ge l.length 4 with h4 | h4
        · exact h4
        · exact absurd (hj5 (by omega)) hj
      refine ⟨UInt8.ofNat (128 + j % 128), ?_⟩
      have hm := Nat.mod_lt j (show 0 < 128 by omega)
      have hn : (UInt8.ofNat (128 + j % 128)).toNat = 128 + j % 128 := by simp; omega
      have hix : ix ((l ++ [UInt8.ofNat (128 + j % 128)]).take 5) = -1 := by rw [e2]; exact ix_snoc_high hall (by omega)
      rw [begins_ok hlo hlh hhi, readS_short hix (by simp; omega)]
      simp only [ne_eq, not_true_eq_false, if_false]
      rw [if_neg (by decide)]
      simp only [decide_eq_true_eq]
      rw [begLow_iff hlh, valOf_one, hn, show (128 + j % 128) % 128 = j % 128 by omega]
      refine ⟨j / 128, fun _ _ => by omega, ?_⟩
      have hd : j = j % 128 + 128 * (j / 128) := by omega
      have e : ((valOf l + 128 ^ l.length * (j % 128) : Nat) : Int) + ((128 ^ (l ++ [UInt8.ofNat (128 + j % 128)]).length : Nat) : Int) * ((j / 128 : Nat) : Int) = (valOf l : Int) + ((128 ^ l.length : Nat) : Int) * (j : Int) := by
        have : valOf l + 128 ^ l.length * (j % 128) + 128 ^ (l.length + 1) * (j / 128) = valOf l + 128 ^ l.length * j := by
          rw [Nat.pow_succ, Nat.mul_assoc, Nat.add_assoc, ← Nat.mul_add, ← hd]
        rw [List.length_append, List.length_singleton]
        exact_mod_cast this
      rw [e]
      exact ⟨h1, h2⟩
  · rintro ⟨x, hx⟩
    rw [begins_ok hlo hlh hhi] at hx
    by_cases hlow : x.toNat < 128
    · have hix : ix ((l ++ [x]).take 5) = (l.length : Int) := by rw [e2]; exact ix_snoc_low hall hlow
      by_cases hz : loose = true ∨ l.length = 0 ∨ ((l ++ [x]).take 5)[l.length]? ≠ some 0
      · rw [readS_some hix hz, e2, List.take_of_length_le (by simp), valOf_one, Nat.mod_eq_of_lt hlow] at hx
        simp only [if_true, decide_eq_true_eq] at hx
        refine ⟨x.toNat, fun hf hl => ?_, ?_, ?_⟩
        · rcases hz with hz | hz | hz
          · rw [hf] at hz; cases hz
          · omega
          · rw [e2, List.getElem?_append_right (Nat.le_refl _), Nat.sub_self] at hz
            rcases Nat.eq_zero_or_pos x.toNat with h0 | h0
            · exfalso
              apply hz
              have : x = 0 := UInt8.toNat_inj.1 (by simpa using h0)
              simp [this]
            · exact h0
        · have := hx.2.1; push_cast at *; omega
        · have := hx.2.2; push_cast at *; omega
      · simp only [not_or, Decidable.not_not] at hz
        have hf : loose = false := by simpa using hz.1
        subst hf
        rw [readS_zero hix hz.2.1 hz.2.2] at hx
        simp at hx
    · have hix : ix ((l ++ [x]).take 5) = -1 := by rw [e2]; exact ix_snoc_high hall (by omega)
      by_cases h4 : l.length < 4
      · rw [readS_short hix (by simp; omega)] at hx
        simp only [ne_eq, not_true_eq_false, if_false] at hx
        rw [if_neg (by decide)] at hx
        simp only [decide_eq_true_eq] at hx
        obtain ⟨i, hi0, hi1, hi2⟩ := (begLow_iff hlh).1 hx
        rw [valOf_one] at hi1 hi2
        have e : ((valOf l + 128 ^ l.length * (x.toNat % 128) : Nat) : Int) + ((128 ^ (l ++ [x]).length : Nat) : Int) * (i : Int) = (valOf l : Int) + ((128 ^ l.length : Nat) : Int) * ((x.toNat % 128 + 128 * i : Nat) : Int) := by
          have : valOf l + 128 ^ l.length * (x.toNat % 128) + 128 ^ (l.length + 1) * i = valOf l + 128 ^ l.length * (x.toNat % 128 + 128 * i) := by
            rw [Nat.pow_succ, Nat.mul_assoc, Nat.add_assoc, ← Nat.mul_add]
          rw [List.length_append, List.length_singleton]
          exact_mod_cast this
        rw [e] at hi1 hi2
        refine ⟨x.toNat % 128 + 128 * i, fun hf hl => ?_, hi1, hi2⟩
        have := hi0 hf (by simp)
        omega
      · rw [readS_long hix (by simp; omega)] at hx
        simp at hx

/-- The plain law. -/
theorem goes_plain (hlo : 0 ≤ lo) (hlh : lo ≤ hi) (hhi : hi < 34359738368) :
    ((beginsS l loose lo hi).1 = true ↔ ((readS l loose).2.2 = 0 ∧ (readS l loose).2.1 = (l.length : Int) ∧ lo ≤ (readS l loose).1 ∧ (readS l loose).1 ≤ hi) ∨ goesB l loose lo hi) ∧
      ¬ (((readS l loose).2.2 = 0 ∧ (readS l loose).2.1 = (l.length : Int) ∧ lo ≤ (readS l loose).1 ∧ (readS l loose).1 ≤ hi) ∧ goesB l loose lo hi) := by
  rw [begins_ok hlo hlh hhi]
  by_cases h0 : (readS l loose).2.2 = 0
  · have hn := goes_not hlo hlh hhi (l := l) (loose := loose) (by omega) readS_m
    rw [if_pos h0]
    simp [h0, hn]
  · by_cases h4 : (readS l loose).2.2 = 4
    · rw [if_neg h0, if_neg (by omega)]
      have := goes_short hlo hlh hhi h4
      simp [h0, this]
    · have hn := goes_not hlo hlh hhi (l := l) (loose := loose) h4 readS_m
      rw [if_neg h0, if_pos h4]
      simp [h0, hn]
end
end Go.Proofs.Ytibkhjpjneoabaa.Vr

namespace Go.Proofs.Ytibkhjpjneoabaa.Vr
open Go.RowKit
set_option linter.unusedVariables false
set_option linter.unusedSimpArgs false

theorem more_high (v : Nat) : ∀ (k i : Nat) (hi : i < (moreB v k).length), 128 ≤ (moreB v k)[i].toNat
  | 0, i, hi => by simp [moreB] at hi
  | k + 1, i, hi => by
    simp only [moreB]
    rw [List.getElem_append]
    split
    · exact more_high v k i _
    · simp only [List.getElem_singleton]
      rw [UInt8.toNat_ofNat', Nat.mod_eq_of_lt (by omega)]
      omega
theorem valOf_more (v : Nat) : ∀ k : Nat, valOf (moreB v k) = v % 128 ^ k
  | 0 => by simp [moreB, valOf, Nat.mod_one]
  | k + 1 => by
    simp only [moreB]
    rw [valOf_one, valOf_more v k, moreB_length, UInt8.toNat_ofNat', Nat.mod_eq_of_lt (show v / 128 ^ k % 128 + 128 < 2 ^ 8 by omega), Nat.add_mod_right, Nat.mod_mod, Nat.pow_succ, Nat.mod_mul]
theorem valOf_form (v k : Nat) (h : v < 128 ^ (k + 1)) : valOf (formB v k) = v := by
  unfold formB
  rw [valOf_one, valOf_more, moreB_length, UInt8.toNat_ofNat', Nat.mod_eq_of_lt (show v / 128 ^ k % 128 < 2 ^ 8 by omega), Nat.mod_mod, ← Nat.mod_mul, ← Nat.pow_succ, Nat.mod_eq_of_lt h]
theorem form_ix (v k : Nat) (fl : List UInt8) (hk : k ≤ 4) : ix ((formB v k ++ fl).take 5) = (k : Int) := by
  have hl : k < (formB v k ++ fl).length := by simp [formB_length]; omega
  refine ix_take hl (by omega) (fun i hi hi2 => ?_) ?_
  · rw [List.getElem_append_left (by rw [formB_length]; omega)]
    simp only [formB]
    rw [List.getElem_append_left (by rw [moreB_length]; omega)]
    exact more_high v k i _
  · rw [List.getElem_append_left (by rw [formB_length]; omega)]
    simp only [formB]
    rw [List.getElem_append_right (by rw [moreB_length]; omega)]
    simp only [List.getElem_singleton]
    rw [UInt8.toNat_ofNat', Nat.mod_eq_of_lt (by omega)]
    omega
theorem form_take (v k : Nat) (fl : List UInt8) (hk : k ≤ 4) : (((formB v k ++ fl).take 5).take (k + 1)) = formB v k := by
  rw [List.take_take, Nat.min_eq_left (by omega), List.take_left' (formB_length v k)]
theorem form_last (v k : Nat) (fl : List UInt8) (hk : k ≤ 4) : ((formB v k ++ fl).take 5)[k]? = some (UInt8.ofNat (v / 128 ^ k % 128)) := by
  rw [List.getElem?_take_of_lt (by omega), List.getElem?_append_left (by rw [formB_length]; omega)]
  simp only [formB]
  rw [List.getElem?_append_right (by rw [moreB_length]; omega), moreB_length]
  simp
theorem form_fits (v k : Nat) (hv : v < 34359738368) (hk : k ≤ 4) (h0 : k0 v ≤ k) : v < 128 ^ (k + 1) := by
  have := (k0_zero v (k + 1) hv (by omega) (by omega)).2 (by omega)
  rcases Nat.div_eq_zero_iff.1 this with h | h
  · have : 0 < 128 ^ (k + 1) := Nat.pow_pos (by decide)
    omega
  · exact h
theorem form_loose (v k : Nat) (fl : List UInt8) (hv : v < 34359738368) (hk : k ≤ 4) (h0 : k0 v ≤ k) : readS (formB v k ++ fl) true = ((v : Int), (k : Int) + 1, 0) := by
  rw [readS_some (form_ix v k fl hk) (.inl rfl), form_take v k fl hk, valOf_form v k (form_fits v k hv hk h0)]
theorem form_first (v : Nat) (fl : List UInt8) (hv : v < 34359738368) : readS (formB v (k0 v) ++ fl) false = ((v : Int), (k0 v : Int) + 1, 0) := by
  have hk := k0_le v
  rw [readS_some (form_ix v _ fl hk) ?_, form_take v _ fl hk, valOf_form v _ (form_fits v _ hv hk (Nat.le_refl _))]
  rcases Nat.eq_zero_or_pos (k0 v) with h | h
  · exact .inr (.inl h)
  · refine .inr (.inr ?_)
    rw [form_last v _ fl hk]
    intro e
    have e1 := Option.some.inj e
    have e2 := congrArg UInt8.toNat e1
    rw [UInt8.toNat_ofNat', Nat.mod_eq_of_lt (by omega)] at e2
    have hf := form_fits v _ hv hk (Nat.le_refl _)
    rw [Nat.pow_succ] at hf
    have h3 : v / 128 ^ k0 v < 128 := (Nat.div_lt_iff_lt_mul (Nat.pow_pos (by decide))).2 (by rw [Nat.mul_comm]; exact hf)
    have h4 : v / 128 ^ k0 v = 0 := by
      have e3 : (0 : UInt8).toNat = 0 := rfl
      rw [e3, Nat.mod_eq_of_lt h3] at e2
      exact e2
    have := (k0_zero v (k0 v) hv (by omega) h).1 h4
    omega
theorem form_later (v k : Nat) (fl : List UInt8) (hv : v < 34359738368) (hk : k ≤ 4) (h0 : k0 v < k) : readS (formB v k ++ fl) false = (0, 0, 6) := by
  refine readS_zero (form_ix v k fl hk) (by omega) ?_
  rw [form_last v k fl hk, (k0_zero v k hv (by omega) (by omega)).2 h0]
  rfl
theorem form_apart (v k : Nat) : (formB v (k + 1)).take (k + 1) ≠ formB v k := by
  intro e
  simp only [formB] at e
  rw [List.take_left' (moreB_length v (k + 1))] at e
  simp only [moreB] at e
  have e1 := (List.append_inj' e rfl).2
  have e2 := congrArg UInt8.toNat (List.cons.inj e1).1
  rw [UInt8.toNat_ofNat', UInt8.toNat_ofNat', Nat.mod_eq_of_lt (by omega), Nat.mod_eq_of_lt (by omega)] at e2
  omega
end Go.Proofs.Ytibkhjpjneoabaa.Vr
