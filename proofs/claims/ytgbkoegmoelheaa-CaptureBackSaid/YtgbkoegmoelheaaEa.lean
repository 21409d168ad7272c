/- Decode gives back what Block encoded (plain). -/
import Derived.Test.YtgbkoegmoelheaaDb
namespace Go.Proofs.Ytgbkoegmoelheaa
open Go.RowKit
set_option linter.unusedVariables false
set_option linter.unusedSimpArgs false

theorem take_app {α : Type} {a b : List α} {n : Nat} (h : a.length = n) : (a ++ b).take n = a := by subst h; simp
theorem drop_app {α : Type} {a b : List α} {n : Nat} (h : a.length = n) : (a ++ b).drop n = b := by subst h; simp
theorem encP_at (p : Pk) (b : List UInt8) (hv : validP p = true) : (encP p ++ b).length = 10 + p.d.length + b.length ∧ num ((encP p ++ b).take 6) = p.t.toNat ∧ num (((encP p ++ b).take 8).drop 6) = p.f.toNat ∧ num (((encP p ++ b).take 10).drop 8) = p.d.length ∧ ((encP p ++ b).take (10 + p.d.length)).drop 10 = p.d ∧ (encP p ++ b).drop (10 + p.d.length) = b := by
  have h := validP_iff.1 hv
  have l6 := be_length p.t.toNat 6
  have l2 := be_length p.f.toNat 2
  have m2 := be_length p.d.length 2
  have n6 := num_be p.t.toNat 6
  have n2 := num_be p.f.toNat 2
  have k2 := num_be p.d.length 2
  rw [Nat.mod_eq_of_lt (by omega)] at n6
  rw [Nat.mod_eq_of_lt (by omega)] at n2
  rw [Nat.mod_eq_of_lt (by omega)] at k2
  refine ⟨by rw [List.length_append, encP_length], ?_, ?_, ?_, ?_, ?_⟩
  · rw [show encP p ++ b = be p.t.toNat 6 ++ (be p.f.toNat 2 ++ (be p.d.length 2 ++ (p.d ++ b))) by simp [encP, List.append_assoc], take_app l6, n6]
  · rw [show encP p ++ b = (be p.t.toNat 6 ++ be p.f.toNat 2) ++ (be p.d.length 2 ++ (p.d ++ b)) by simp [encP, List.append_assoc], take_app (by rw [List.length_append, l6, l2]), drop_app l6, n2]
  · rw [show encP p ++ b = ((be p.t.toNat 6 ++ be p.f.toNat 2) ++ be p.d.length 2) ++ (p.d ++ b) by simp [encP, List.append_assoc], take_app (by rw [List.length_append, List.length_append, l6, l2, m2]), drop_app (by rw [List.length_append, l6, l2]), k2]
  · rw [take_app (encP_length p), encP, drop_app (by rw [List.length_append, List.length_append, l6, l2, m2])]
  · rw [drop_app (encP_length p)]
theorem packs_body : ∀ (l : List Pk), (∀ p ∈ l, validP p = true) → packs (bodyP l) l.length = some l
  | [], _ => rfl
  | p :: l, hv => by
    have ih := packs_body l fun q hq => hv q (by simp [hq])
    have hp := hv p (by simp)
    have h := validP_iff.1 hp
    obtain ⟨e1, e2, e3, e4, e5, e6⟩ := encP_at p (bodyP l) hp
    have eb : bodyP (p :: l) = encP p ++ bodyP l := rfl
    rw [eb, List.length_cons, packs_succ, e2, e3, e4, e5, e6, if_neg (by omega), if_neg (by omega)]
    have ep : (⟨(p.t.toNat : Int), (p.f.toNat : Int), p.d⟩ : Pk) = p := by
      obtain ⟨t, f, d⟩ := p
      simp only at h ⊢
      rw [Int.toNat_of_nonneg h.1, Int.toNat_of_nonneg h.2.2.1]
    rw [ep, if_pos hp, ih]
    rfl
theorem headP_length (l : List Pk) : (headP l).length = 7 + sizeP l := by
  simp only [headP, List.length_append, be_length, bodyP_length]
  show 4 + 1 + 2 + sizeP l = _
  omega
theorem preP_length (l : List Pk) : (preP l).length = padN (7 + sizeP l) := by
  rw [preP, List.length_append, headP_length, List.length_replicate]
  unfold padN
  omega
theorem dec_encB (l : List Pk) (rest : List UInt8) (hv : ∀ p ∈ l, validP p = true) (hf : fitsP l = true) : dec (encB l ++ rest) = .ok (l, (encB l).length) := by
  have hF := fitsP_iff.1 hf
  have hL := encB_length l
  have hpl := preP_length l
  have hhl := headP_length l
  have hpad : 7 + sizeP l ≤ padN (7 + sizeP l) := by unfold padN; omega
  have hlen : (encB l ++ rest).length = padN (7 + sizeP l) + 4 + rest.length := by rw [List.length_append, hL]
  have E1 : encB l ++ rest = magicB ++ (be l.length 1 ++ (be (sizeP l) 2 ++ (bodyP l ++ (List.replicate (padN (7 + sizeP l) - (7 + sizeP l)) 0 ++ (be (adlN (preP l)) 4 ++ rest))))) := by simp [encB, preP, headP, List.append_assoc]
  have t4 : (encB l ++ rest).take 4 = magicB := by rw [E1]; exact take_app rfl
  have g4 : ((encB l ++ rest).getD 4 0).toNat = l.length := by
    have hb : be l.length 1 = [UInt8.ofNat (l.length / 256 ^ 0 % 256)] := rfl
    rw [E1, hb]
    have : (UInt8.ofNat (l.length / 256 ^ 0 % 256)).toNat = l.length := by
      rw [UInt8.toNat_ofNat', Nat.pow_zero, Nat.div_one, Nat.mod_mod, Nat.mod_eq_of_lt (by omega)]
    exact this
  have s7 : num (((encB l ++ rest).take 7).drop 5) = sizeP l := by
    rw [show encB l ++ rest = ((magicB ++ be l.length 1) ++ be (sizeP l) 2) ++ (bodyP l ++ (List.replicate (padN (7 + sizeP l) - (7 + sizeP l)) 0 ++ (be (adlN (preP l)) 4 ++ rest))) by simp [encB, preP, headP, List.append_assoc], take_app (by rw [List.length_append, List.length_append, be_length, be_length]; rfl), drop_app (by rw [List.length_append, be_length]; rfl), num_be, Nat.mod_eq_of_lt (by omega)]
  have bd : ((encB l ++ rest).take (7 + sizeP l)).drop 7 = bodyP l := by
    rw [show encB l ++ rest = headP l ++ (List.replicate (padN (7 + sizeP l) - (7 + sizeP l)) 0 ++ (be (adlN (preP l)) 4 ++ rest)) by simp [encB, preP, List.append_assoc], take_app hhl, headP, drop_app (by rw [List.length_append, List.length_append, be_length, be_length]; rfl)]
  have tp : (encB l ++ rest).take (padN (7 + sizeP l)) = preP l := by
    rw [show encB l ++ rest = preP l ++ (be (adlN (preP l)) 4 ++ rest) by simp [encB, List.append_assoc], take_app hpl]
  have zp : num ((preP l).drop (7 + sizeP l)) = 0 := by
    rw [preP, drop_app hhl]
    generalize padN (7 + sizeP l) - (7 + sizeP l) = k
    induction k with
    | zero => rfl
    | succ k ih => rw [List.replicate_succ, num_cons, ih]; simp
  have ck : ((encB l ++ rest).take (padN (7 + sizeP l) + 4)).drop (padN (7 + sizeP l)) = be (adlN (preP l)) 4 := by
    rw [take_app hL, encB, drop_app hpl]
  rw [dec_3 (by omega) g4 s7 rfl ⟨t4, by omega, by omega, by omega⟩, if_neg (by omega), bd, packs_body l hv]
  simp only
  rw [tp, if_pos ⟨hf, zp⟩, if_pos ck.symm, hL]
end Go.Proofs.Ytgbkoegmoelheaa
