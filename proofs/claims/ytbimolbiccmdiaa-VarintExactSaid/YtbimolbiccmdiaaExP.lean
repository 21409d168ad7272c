/- Plain laws for VarintExact: what is read of a form with bytes behind it; no form begins the next one. -/
import Derived.Test.YtbimolbiccmdiaaGoP
import Derived.Test.YtbimolbiccmdiaaRRead
import Derived.Test.YtbimolbiccmdiaaRefF
namespace Go.Proofs.Ytbimolbiccmdiaa
open Go.RowKit
set_option linter.unusedVariables false
set_option linter.unusedSimpArgs false

theorem more_high (v : Nat) : ∀ (k i : Nat) (hi : i < (moreB v k).length), 128 ≤ (moreB v k)[i].toNat
  | 0, i, hi => by simp [moreB] at hi
  | k + 1, i, hi => by
    simp only [moreB]
    rw [List.getElem_append]
    split
    · exact more_high v k i _
    · simp only [List.getElem_singleton]
      rw [UInt8.toNat_ofNat', Nat.mod_eq_of_lt (by omega)]
      omega
theorem valOf_more (v : Nat) : ∀ k : Nat, valOf (moreB v k) = v % 128 ^ k
  | 0 => by simp [moreB, valOf, Nat.mod_one]
  | k + 1 => by
    simp only [moreB]
    rw [valOf_one, valOf_more v k, moreB_length, UInt8.toNat_ofNat', Nat.mod_eq_of_lt (show v / 128 ^ k % 128 + 128 < 2 ^ 8 by omega), Nat.add_mod_right, Nat.mod_mod, Nat.pow_succ, Nat.mod_mul]
theorem valOf_form (v k : Nat) (h : v < 128 ^ (k + 1)) : valOf (formB v k) = v := by
  unfold formB
  rw [valOf_one, valOf_more, moreB_length, UInt8.toNat_ofNat', Nat.mod_eq_of_lt (show v / 128 ^ k % 128 < 2 ^ 8 by omega), Nat.mod_mod, ← Nat.mod_mul, ← Nat.pow_succ, Nat.mod_eq_of_lt h]
theorem form_ix (v k : Nat) (fl : List UInt8) (hk : k ≤ 4) : ix ((formB v k ++ fl).take 5) = (k : Int) := by
  have hl : k < (formB v k ++ fl).length := by simp [formB_length]; omega
  refine ix_take hl (by omega) (fun i hi hi2 => ?_) ?_
  · rw [List.getElem_append_left (by rw [formB_length]; omega)]
    simp only [formB]
    rw [List.getElem_append_left (by rw [moreB_length]; omega)]
    exact more_high v k i _
  · rw [List.getElem_append_left (by rw [formB_length]; omega)]
    simp only [formB]
    rw [List.getElem_append_right (by rw [moreB_length]; omega)]
    simp only [List.getElem_singleton]
    rw [UInt8.toNat_ofNat', Nat.mod_eq_of_lt (by omega)]
    omega
theorem form_take (v k : Nat) (fl : List UInt8) (hk : k ≤ 4) : (((formB v k ++ fl).take 5).take (k + 1)) = formB v k := by
  rw [List.take_take, Nat.min_eq_left (by omega), List.take_left' (formB_length v k)]
theorem form_last (v k : Nat) (fl : List UInt8) (hk : k ≤ 4) : ((formB v k ++ fl).take 5)[k]? = some (UInt8.ofNat (v / 128 ^ k % 128)) := by
  rw [List.getElem?_take_of_lt (by omega), List.getElem?_append_left (by rw [formB_length]; omega)]
  simp only [formB]
  rw [List.getElem?_append_right (by rw [moreB_length]; omega), moreB_length]
  simp
theorem form_fits (v k : Nat) (hv : v < 34359738368) (hk : k ≤ 4) (h0 : k0 v ≤ k) : v < 128 ^ (k + 1) := by
  have := (k0_zero v (k + 1) hv (by omega) (by omega)).2 (by omega)
  rcases Nat.div_eq_zero_iff.1 this with h | h
  · have : 0 < 128 ^ (k + 1) := Nat.pow_pos (by decide)
    omega
  · exact h
theorem form_loose (v k : Nat) (fl : List UInt8) (hv : v < 34359738368) (hk : k ≤ 4) (h0 : k0 v ≤ k) : readS (formB v k ++ fl) true = ((v : Int), (k : Int) + 1, 0) := by
  rw [readS_some (form_ix v k fl hk) (.inl rfl), form_take v k fl hk, valOf_form v k (form_fits v k hv hk h0)]
theorem form_first (v : Nat) (fl : List UInt8) (hv : v < 34359738368) : readS (formB v (k0 v) ++ fl) false = ((v : Int), (k0 v : Int) + 1, 0) := by
  have hk := k0_le v
  rw [readS_some (form_ix v _ fl hk) ?_, form_take v _ fl hk, valOf_form v _ (form_fits v _ hv hk (Nat.le_refl _))]
  rcases Nat.eq_zero_or_pos (k0 v) with h | h
  · exact .inr (.inl h)
  · refine .inr (.inr ?_)
    rw [form_last v _ fl hk]
    intro e
    have e1 := Option.some.inj e
    have e2 := congrArg UInt8.toNat e1
    rw [UInt8.toNat_ofNat', Nat.mod_eq_of_lt (by omega)] at e2
    have hf := form_fits v _ hv hk (Nat.le_refl _)
    rw [Nat.pow_succ] at hf
    have h3 : v / 128 ^ k0 v < 128 := (Nat.div_lt_iff_lt_mul (Nat.pow_pos (by decide))).2 (by rw [Nat.mul_comm]; exact hf)
    have h4 : v / 128 ^ k0 v = 0 := by
      have e3 : (0 : UInt8).toNat = 0 := rfl
      rw [e3, Nat.mod_eq_of_lt h3] at e2
      exact e2
    have := (k0_zero v (k0 v) hv (by omega) h).1 h4
    omega
theorem form_later (v k : Nat) (fl : List UInt8) (hv : v < 34359738368) (hk : k ≤ 4) (h0 : k0 v < k) : readS (formB v k ++ fl) false = (0, 0, 6) := by
  refine readS_zero (form_ix v k fl hk) (by omega) ?_
  rw [form_last v k fl hk, (k0_zero v k hv (by omega) (by omega)).2 h0]
  rfl
theorem form_apart (v k : Nat) : (formB v (k + 1)).take (k + 1) ≠ formB v k := by
  intro e
  simp only [formB] at e
  rw [List.take_left' (moreB_length v (k + 1))] at e
  simp only [moreB] at e
  have e1 := (List.append_inj' e rfl).2
  have e2 := congrArg UInt8.toNat (List.cons.inj e1).1
  rw [UInt8.toNat_ofNat', UInt8.toNat_ofNat', Nat.mod_eq_of_lt (by omega), Nat.mod_eq_of_lt (by omega)] at e2
  omega
end Go.Proofs.Ytbimolbiccmdiaa
