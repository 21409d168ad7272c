/- Plain laws of the scanner: what stands ahead of the first wrong byte, tokens one behind the other. -/
import Derived.Test.YtkihoekldklkhaaDoorTa
namespace Go.Proofs.YtkihoekldklkhaaDoor
open Go.RowKit
set_option linter.unusedVariables false
set_option linter.unusedSimpArgs false

/-! What is cut off. -/
theorem headP_take (p : Int → Bool) (r : List UInt8) (j : Nat) : headP p (r.take j) = (decide (0 < j) && headP p r) := by
  cases j with
  | zero => simp [headP]
  | succ j => cases r with
    | nil => simp [headP]
    | cons c r => simp [headP]
theorem headP_td (p : Int → Bool) (r : List UInt8) (m i : Nat) : headP p ((r.take m).drop i) = (decide (i < m) && headP p (r.drop i)) := by
  rw [List.drop_take, headP_take]
  congr 1
  simp; omega
theorem runL_take (p : Int → Bool) : ∀ (M : Nat) (r : List UInt8) (m : Nat), runL p M (r.take m) = min m (runL p M r)
  | 0, r, m => by simp [runL]
  | M + 1, [], m => by simp [runL]
  | M + 1, c :: r, 0 => by simp [runL]
  | M + 1, c :: r, m + 1 => by
    rw [List.take_succ_cons]
    unfold runL
    split
    · rw [runL_take p M r m]; omega
    · omega
theorem cntL_take (p : Int → Bool) (r : List UInt8) (m : Nat) : cntL p (r.take m) = min m (cntL p r) := by
  have h := runL_take p r.length r m
  rw [runL_big p r.length (r.take m) (by rw [List.length_take]; omega)] at h
  exact h
theorem skipL_take : ∀ (b : Bool) (r : List UInt8) (m : Nat), skipL b (r.take m) = min m (skipL b r)
  | true, [], m => by simp [skipL]
  | false, [], m => by simp [skipL]
  | b, c :: r, 0 => by cases b <;> simp [skipL]
  | false, c :: r, m + 1 => by
    rw [List.take_succ_cons]
    have h1 := skipL_take false r m
    have h2 := skipL_take true r m
    unfold skipL
    split
    · rw [h1]; omega
    · split
      · rw [h2]; omega
      · omega
  | true, c :: r, m + 1 => by
    rw [List.take_succ_cons]
    have h1 := skipL_take false r m
    have h2 := skipL_take true r m
    unfold skipL
    split
    · rw [h1]; omega
    · rw [h2]; omega
theorem digsL_take (base : Int) (al : Bool) : ∀ (r : List UInt8) (v : Int) (n j : Nat) (k : Nat) (u : Int) (N : Nat), digsL base al r v n = .ok k u N → N ≤ n + j → digsL base al (r.take j) v n = .ok k u N
  | [], v, n, j, k, u, N, h, _ => by simpa using h
  | c :: r, v, n, 0, k, u, N, h, hN => by
    unfold digsL at h
    rw [List.take_zero]
    unfold digsL
    split at h
    · split at h
      · cases h
      · split at h
        · have := digsL_pos _ _ _ _ _ _ _ _ h; omega
        · cases h
    · split at h
      · cases h
      · exact h
  | c :: r, v, n, j + 1, k, u, N, h, hN => by
    rw [List.take_succ_cons]
    unfold digsL at h ⊢
    split at h
    · split at h
      · cases h
      · split at h
        · rename_i h1 h2 h3
          rw [if_pos h1, if_neg h2, if_pos h3]
          exact digsL_take base al r _ _ j k u N h (by omega)
        · cases h
    · split at h
      · cases h
      · rename_i h1 h2
        rw [if_neg h1, if_neg h2]
        exact h
theorem digsL_cut (base : Int) (al : Bool) : ∀ (r : List UInt8) (v : Int) (n N : Nat), digsL base al r v n = .bad N → ∃ u, digsL base al (r.take (N - n)) v n = .ok 2 u N
  | [], v, n, N, h => by unfold digsL at h; cases h
  | c :: r, v, n, N, h => by
    have hb := digsL_bad _ _ _ _ _ _ h
    unfold digsL at h
    split at h
    · split at h
      · injection h with h; subst h; exact ⟨v, by simp [digsL]⟩
      · split at h
        · rename_i h1 h2 h3
          have hb2 := digsL_bad _ _ _ _ _ _ h
          obtain ⟨u, hu⟩ := digsL_cut base al r _ _ N h
          refine ⟨u, ?_⟩
          have e : N - n = (N - (n + 1)) + 1 := by omega
          rw [e, List.take_succ_cons]
          unfold digsL
          rw [if_pos h1, if_neg h2, if_pos h3]
          exact hu
        · injection h with h; subst h; exact ⟨v, by simp [digsL]⟩
    · split at h
      · injection h with h; subst h; exact ⟨v, by simp [digsL]⟩
      · cases h
theorem drop_one_take (r : List UInt8) (m i : Nat) : (r.take m).drop i = (r.drop i).take (m - i) := List.drop_take ..
/-- A token stands there, too, when the text ends behind it. -/
theorem tok_take {r : List UInt8} {k : Nat} {v : Int} {n m : Nat} (h : tokL r = .ok k v n) (hm : n ≤ m) : tokL (r.take m) = .ok k v n := by
  have hn := tokL_ok h
  have h0 : ∀ p, headP p (r.take m) = headP p r := fun p => by rw [headP_take]; simp; omega
  unfold tokL at h ⊢
  simp only [h0]
  split at h
  · rename_i q; rw [if_pos q]
    unfold wordL at h ⊢
    split at h
    · cases h
    · rename_i q2
      injection h with e1 e2 e3
      rw [runL_take, e3, headP_td, Nat.min_eq_right hm]
      rw [e3] at q2
      rw [if_neg (by simp only [Bool.and_eq_true]; exact fun hh => q2 hh.2), e1, e2]
  · rename_i q; rw [if_neg q]
    split at h
    · rename_i q1; rw [if_pos q1]
      unfold numL at h ⊢
      simp only [h0, headP_td]
      split at h
      · rename_i q2
        split at h
        · rename_i q3
          have hp := digsL_pos _ _ _ _ _ _ _ _ h
          have h3 : 3 ≤ n := by
            unfold digsL at h
            cases hr : r.drop 2 with
            | nil => rw [hr] at q3; cases q3
            | cons c r2 =>
              rw [hr] at h q3
              simp only at h
              have hx : 0 ≤ hexI c.toNat := by have : isHex c.toNat = true := q3; unfold isHex at this; simpa using this
              by_cases hx2 : hexI c.toNat < 16
              · rw [if_pos ⟨hx, hx2⟩, if_neg (by simp)] at h
                split at h
                · have := digsL_pos _ _ _ _ _ _ _ _ h; omega
                · cases h
              · exfalso
                unfold hexI digI at hx2
                split at hx2
                · rename_i h9; simp at h9; omega
                · split at hx2
                  · omega
                  · split at hx2 <;> omega
          rw [if_pos ⟨q2.1, by simp only [q2.2, Bool.and_true, decide_eq_true_eq]; omega⟩, if_pos (by simp only [q3, Bool.and_true, decide_eq_true_eq]; omega), drop_one_take]
          exact digsL_take _ _ _ _ _ _ _ _ _ h (by omega)
        · cases h
      · rename_i q2
        rw [if_neg (by simp only [Bool.and_eq_true]; exact fun hh => q2 ⟨hh.1, hh.2.2⟩)]
        exact digsL_take _ _ _ _ _ _ _ _ _ h (by omega)
    · rename_i q1; rw [if_neg q1]
      split at h
      · rename_i q2; rw [if_pos q2]
        unfold quoL at h ⊢
        split at h
        · rename_i q3
          injection h with e1 e2 e3
          have hc : cntL quoI ((r.take m).drop 1) = cntL quoI (r.drop 1) := by rw [drop_one_take, cntL_take]; omega
          rw [hc, if_pos (by rw [drop_one_take, headP_td, q3]; simp only [Bool.and_true, decide_eq_true_eq]; omega), e1, e2, e3]
        · cases h
      · rename_i q2; rw [if_neg q2]
        split at h
        · rename_i q3; rw [if_pos q3]
          unfold symL at h ⊢
          injection h with e1 e2 e3
          have ht : twoL (r.take m) = twoL r := by
            unfold twoL
            simp only [h0, headP_td]
            by_cases h2 : twoL r = true
            · rw [if_pos h2] at e3
              have : decide (1 < m) = true := by simp; omega
              rw [this]; simp
            · unfold twoL at h2
              simp only [Bool.or_eq_true, Bool.and_eq_true, not_or, not_and] at h2
              cases hd : decide (1 < m) with
              | true => simp
              | false =>
                simp only [Bool.false_and, Bool.and_false, Bool.or_self]
                symm
                simp only [Bool.or_eq_false_iff, Bool.and_eq_false_iff]
                refine ⟨?_, ?_⟩
                · by_cases a : headP (isI 46) r = true
                  · right; simpa using h2.1 a
                  · left; simpa using a
                · by_cases a : headP (isI 45) r = true
                  · right; simpa using h2.2 a
                  · left; simpa using a
          rw [ht, e1, e2, e3]
        · cases h
/-- What stands ahead of a wrong byte is nothing, a token, or a token that ends too early. -/
theorem tok_cut {r : List UInt8} {n : Nat} (h : tokL r = .bad n) : n = 0 ∨ (∃ k v, tokL (r.take n) = .ok k v n) ∨ tokL (r.take n) = .bad n := by
  by_cases hn : n = 0
  · exact .inl hn
  right
  have h0 : ∀ p, headP p (r.take n) = headP p r := fun p => by rw [headP_take]; simp; omega
  unfold tokL at h
  have hg : ∀ X, (if headP ltrI r = true then wordL (r.take n) else if headP digI r = true then numL (r.take n) else if headP (isI 34) r = true then quoL (r.take n) else if headP symI r = true then symL (r.take n) else .bad 0) = X → tokL (r.take n) = X := fun X hX => by unfold tokL; simp only [h0]; exact hX
  split at h
  · rename_i q
    rw [if_pos q] at hg
    left
    unfold wordL at h
    split at h
    · rename_i q2
      injection h with e
      refine ⟨1, 0, hg _ ?_⟩
      unfold wordL
      rw [runL_take, e, Nat.min_self, headP_td]
      rw [if_neg (by simp)]
    · cases h
  · rename_i q
    rw [if_neg q] at hg
    split at h
    · rename_i q1
      rw [if_pos q1] at hg
      unfold numL at h
      split at h
      · rename_i q2
        split at h
        · rename_i q3
          have hp := digsL_bad _ _ _ _ _ _ h
          have h3 : 3 ≤ n := by
            unfold digsL at h
            cases hr : r.drop 2 with
            | nil => rw [hr] at q3; cases q3
            | cons c r2 =>
              rw [hr] at h q3
              simp only at h
              have hx : 0 ≤ hexI c.toNat := by have : isHex c.toNat = true := q3; unfold isHex at this; simpa using this
              have hx2 : hexI c.toNat < 16 := by
                unfold hexI digI
                split
                · rename_i h9; simp at h9; omega
                · split
                  · omega
                  · split <;> omega
              rw [if_pos ⟨hx, hx2⟩, if_neg (by simp)] at h
              split at h
              · have := digsL_bad _ _ _ _ _ _ h; omega
              · rename_i h9; omega
          obtain ⟨u, hu⟩ := digsL_cut _ _ _ _ _ _ h
          left
          refine ⟨2, u, hg _ ?_⟩
          unfold numL
          simp only [h0, headP_td]
          rw [if_pos ⟨q2.1, by simp only [q2.2, Bool.and_true, decide_eq_true_eq]; omega⟩, if_pos (by simp only [q3, Bool.and_true, decide_eq_true_eq]; omega), drop_one_take]
          exact hu
        · rename_i q3
          injection h with e
          right
          refine hg _ ?_
          unfold numL
          simp only [h0, headP_td]
          rw [if_pos ⟨q2.1, by simp only [q2.2, Bool.and_true, decide_eq_true_eq]; omega⟩, if_neg (by simp only [Bool.and_eq_true]; exact fun hh => q3 hh.2), e]
      · rename_i q2
        obtain ⟨u, hu⟩ := digsL_cut _ _ _ _ _ _ h
        left
        refine ⟨2, u, hg _ ?_⟩
        unfold numL
        simp only [h0, headP_td]
        rw [if_neg (by simp only [Bool.and_eq_true]; exact fun hh => q2 ⟨hh.1, hh.2.2⟩)]
        exact hu
    · rename_i q1
      rw [if_neg q1] at hg
      split at h
      · rename_i q2
        rw [if_pos q2] at hg
        unfold quoL at h
        split at h
        · cases h
        · rename_i q3
          injection h with e
          right
          refine hg _ ?_
          unfold quoL
          have hc : cntL quoI ((r.take n).drop 1) = cntL quoI (r.drop 1) := by rw [drop_one_take, cntL_take]; omega
          rw [hc, drop_one_take, headP_td, if_neg (by simp only [Bool.and_eq_true]; exact fun hh => q3 hh.2), e]
      · rename_i q2
        rw [if_neg q2] at hg
        split at h
        · unfold symL at h; cases h
        · injection h with e; exact absurd e.symm hn
theorem scanL_ge : ∀ (m : Nat) (r : List UInt8) (i b : Nat), r.length ≤ m → (scanL i r).2 = some b → i ≤ b ∧ b ≤ i + r.length := by
  intro m
  induction m with
  | zero =>
    intro r i b hm h
    have : r = [] := List.length_eq_zero_iff.1 (by omega)
    subst this
    rw [scanL_fin (by simp)] at h
    cases h
  | succ m ih =>
    intro r i b hm h
    have hs := skipL_le false r
    by_cases hr : r.drop (skipL false r) = []
    · rw [scanL_fin hr] at h; cases h
    cases ht : tokL (r.drop (skipL false r)) with
    | bad n =>
      rw [scanL_bad hr ht] at h
      have := tokL_bad ht
      rw [List.length_drop] at this
      injection h with h
      omega
    | ok k v n =>
      rw [scanL_tok hr ht] at h
      have hn := tokL_ok ht
      rw [List.length_drop] at hn
      have := ih _ _ _ (by rw [List.length_drop, List.length_drop]; omega) h
      rw [List.length_drop, List.length_drop] at this
      omega
/-- What stands ahead of the first wrong byte scans without an error, or ends too early. -/
theorem scan_cut : ∀ (m : Nat) (r : List UInt8) (i b : Nat), r.length ≤ m → (scanL i r).2 = some b → (scanL i (r.take (b - i))).2 = none ∨ (scanL i (r.take (b - i))).2 = some b := by
  intro m
  induction m with
  | zero =>
    intro r i b hm h
    have : r = [] := List.length_eq_zero_iff.1 (by omega)
    subst this
    rw [scanL_fin (by simp)] at h
    cases h
  | succ m ih =>
    intro r i b hm h
    have hs := skipL_le false r
    have hge := scanL_ge _ _ _ _ (Nat.le_refl _) h
    by_cases hr : r.drop (skipL false r) = []
    · rw [scanL_fin hr] at h; cases h
    cases ht : tokL (r.drop (skipL false r)) with
    | bad n =>
      rw [scanL_bad hr ht] at h
      injection h with h
      have hsk : skipL false (r.take (b - i)) = skipL false r := by rw [skipL_take]; omega
      have hdr : (r.take (b - i)).drop (skipL false (r.take (b - i))) = (r.drop (skipL false r)).take n := by rw [hsk, drop_one_take]; congr 1; omega
      have hl := tokL_bad ht
      rcases tok_cut ht with h1 | ⟨k, v, h1⟩ | h1
      · left
        subst h1
        rw [scanL_fin (by rw [hdr]; simp)]
      · left
        have hne : (r.take (b - i)).drop (skipL false (r.take (b - i))) ≠ [] := by
          rw [hdr]
          intro e
          have := (tokL_ok h1).1
          rw [← List.length_eq_zero_iff, List.length_take] at e
          omega
        rw [scanL_tok hne (by rw [hdr]; exact h1)]
        simp only
        rw [scanL_fin]
        rw [hdr]
        have : ((r.drop (skipL false r)).take n).drop n = [] := by rw [List.drop_eq_nil_iff, List.length_take]; omega
        rw [this]; simp
      · by_cases hn : n = 0
        · left
          subst hn
          rw [scanL_fin (by rw [hdr]; simp)]
        · right
          have hne : (r.take (b - i)).drop (skipL false (r.take (b - i))) ≠ [] := by
            rw [hdr]
            intro e
            rw [← List.length_eq_zero_iff, List.length_take] at e
            omega
          rw [scanL_bad hne (by rw [hdr]; exact h1), hsk, h]
    | ok k v n =>
      rw [scanL_tok hr ht] at h
      have hn := tokL_ok ht
      have hl : n ≤ r.length - skipL false r := by have := hn.2.1; rwa [List.length_drop] at this
      have hge2 := scanL_ge _ _ _ _ (Nat.le_refl _) h
      have h2 := ih _ _ _ (by rw [List.length_drop, List.length_drop]; omega) h
      have hsk : skipL false (r.take (b - i)) = skipL false r := by rw [skipL_take]; omega
      have hdr : (r.take (b - i)).drop (skipL false (r.take (b - i))) = (r.drop (skipL false r)).take (b - i - skipL false r) := by rw [hsk, drop_one_take]
      have hne : (r.take (b - i)).drop (skipL false (r.take (b - i))) ≠ [] := by
        rw [hdr]
        intro e
        rw [← List.length_eq_zero_iff, List.length_take, List.length_drop] at e
        omega
      rw [scanL_tok hne (by rw [hdr]; exact tok_take ht (by omega))]
      rw [hdr, hsk, drop_one_take]
      have e : b - i - skipL false r - n = b - (i + skipL false r + n) := by omega
      simp only [e]
      exact h2
/-! Lines and columns grow. -/
def LtP (p q : Nat × Nat) : Prop := p.1 < q.1 ∨ p.1 = q.1 ∧ p.2 < q.2
theorem ltP_step (p : Nat × Nat) (c : UInt8) : LtP p (lcStep p c) := by unfold LtP lcStep; split <;> simp
theorem ltP_trans {p q r : Nat × Nat} (h : LtP p q) (k : LtP q r) : LtP p r := by unfold LtP at *; omega
theorem ltP_fold : ∀ (l : List UInt8) (p : Nat × Nat), l ≠ [] → LtP p (l.foldl lcStep p)
  | [], p, h => absurd rfl h
  | [c], p, _ => ltP_step p c
  | c :: d :: l, p, _ => by
    rw [List.foldl_cons]
    exact ltP_trans (ltP_step p c) (ltP_fold (d :: l) _ (by simp))
theorem lcOf_lt {L : List UInt8} {i j : Nat} (h : i < j) (hj : j ≤ L.length) : LtP (lcOf L i) (lcOf L j) := by
  have e : L.take j = L.take i ++ (L.drop i).take (j - i) := by
    have := List.take_append_drop i (L.take j)
    rw [List.take_take, List.drop_take, Nat.min_eq_left (by omega)] at this
    exact this.symm
  unfold lcOf
  rw [e, List.foldl_append]
  refine ltP_fold _ _ fun hh => ?_
  rw [← List.length_eq_zero_iff, List.length_take, List.length_drop] at hh
  omega
theorem lcOf_inj {L : List UInt8} {i j : Nat} (hi : i < j) (hj : j ≤ L.length) : ¬ ((lcOf L i).1 = (lcOf L j).1 ∧ (lcOf L i).2 = (lcOf L j).2) := by
  have := lcOf_lt hi hj
  unfold LtP at this
  omega
theorem lcOf_take {L : List UInt8} {b : Nat} : lcOf (L.take b) b = lcOf L b := by unfold lcOf; rw [List.take_take, Nat.min_self]
end Go.Proofs.YtkihoekldklkhaaDoor
