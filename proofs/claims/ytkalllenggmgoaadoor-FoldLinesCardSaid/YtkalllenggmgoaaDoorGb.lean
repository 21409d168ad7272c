/- The lines of a block in its bytes: plain. -/
import Derived.Test.YtkalllenggmgoaaDoorGa
namespace Go.Proofs.YtkalllenggmgoaaDoor
set_option linter.unusedVariables false
set_option linter.unusedSimpArgs false

theorem bytesOf_append (a b : List Raw) : bytesOf (a ++ b) = bytesOf a ++ bytesOf b := by simp [bytesOf]
theorem named_notblank {c : UInt8} (h : named c = true) : blank c = false := by
  have h1 := (named_iff c).1 h
  cases hb : blank c with
  | false => rfl
  | true => have := (blank_iff c).1 hb; omega
/-- A line in its place. -/
structure InB (b : List UInt8) (at_ : Nat) (r : Raw) : Prop where
  ex : ∃ P c t, b = P ++ (r.name ++ 58 :: (r.raw ++ 13 :: 10 :: c :: t)) ∧ P.length = at_ ∧ blank c = false
theorem inB {b : List UInt8} {E : Nat} {rs1 rest : List Raw} {r : Raw} {lo : Bool} (h : b.take E = bytesOf (rs1 ++ r :: rest) ++ [13, 10]) (hok : ∀ q ∈ rest, RawOk lo q) : InB b (bytesOf rs1).length r := by
  have hb : b = b.take E ++ b.drop E := (List.take_append_drop E b).symm
  have tail : ∃ c t, bytesOf rest ++ [13, 10] ++ b.drop E = c :: t ∧ blank c = false := by
    cases rest with
    | nil => exact ⟨13, _, rfl, by decide⟩
    | cons q rest =>
      obtain ⟨n1, n2, n3⟩ := (hok q List.mem_cons_self).nm
      cases hq : q.name with
      | nil => rw [hq] at n2; simp at n2
      | cons x xs =>
        refine ⟨x, xs ++ 58 :: (q.raw ++ [13, 10]) ++ bytesOf rest ++ [13, 10] ++ b.drop E, ?_, named_notblank (n1 x (by rw [hq]; exact List.mem_cons_self))⟩
        have : bytesOf (q :: rest) = q.b ++ bytesOf rest := rfl
        rw [this]
        unfold Raw.b
        rw [hq]
        rfl
  obtain ⟨c, t, h1, h2⟩ := tail
  refine ⟨bytesOf rs1, c, t, ?_, rfl, h2⟩
  rw [h, bytesOf_append] at hb
  rw [hb]
  have : bytesOf (r :: rest) = r.name ++ 58 :: (r.raw ++ [13, 10]) ++ bytesOf rest := by unfold bytesOf; rw [List.flatMap_cons]; rfl
  rw [this, List.append_assoc, List.append_assoc, List.append_assoc, ← List.append_assoc (bytesOf rest), h1]
  simp
section
variable {b : List UInt8} {at_ : Nat} {r : Raw} {lo : Bool}
theorem InB.name (h : InB b at_ r) {i : Nat} (hi : i < r.name.length) : b[at_ + i]? = r.name[i]? := by
  obtain ⟨P, c, t, rfl, rfl, hc⟩ := h.ex
  rw [List.getElem?_append_right (by omega), Nat.add_sub_cancel_left, List.getElem?_append_left hi]
theorem InB.colon (h : InB b at_ r) : b[at_ + r.name.length]? = some 58 := by
  obtain ⟨P, c, t, rfl, rfl, hc⟩ := h.ex
  rw [List.getElem?_append_right (by omega), Nat.add_sub_cancel_left, List.getElem?_append_right (Nat.le_refl _), Nat.sub_self]
  rfl
theorem InB.raw (h : InB b at_ r) {k : Nat} (hk : k < r.raw.length) : b[at_ + r.name.length + 1 + k]? = r.raw[k]? := by
  obtain ⟨P, c, t, rfl, rfl, hc⟩ := h.ex
  rw [List.getElem?_append_right (by omega), List.getElem?_append_right (by omega)]
  rw [show P.length + r.name.length + 1 + k - P.length - r.name.length = k + 1 by omega, List.getElem?_cons_succ, List.getElem?_append_left hk]
theorem InB.after (h : InB b at_ r) (k : Nat) : ∃ c t, blank c = false ∧ b[at_ + r.name.length + 1 + r.raw.length + k]? = (13 :: 10 :: c :: t)[k]? := by
  obtain ⟨P, c, t, rfl, rfl, hc⟩ := h.ex
  refine ⟨c, t, hc, ?_⟩
  rw [List.getElem?_append_right (by omega), List.getElem?_append_right (by omega)]
  rw [show P.length + r.name.length + 1 + r.raw.length + k - P.length - r.name.length = r.raw.length + k + 1 by omega, List.getElem?_cons_succ, List.getElem?_append_right (by omega), Nat.add_sub_cancel_left]
def stopAt (at_ : Nat) (r : Raw) : Nat := at_ + r.name.length + 1 + r.raw.length
theorem InB.yes (h : InB b at_ r) : b[stopAt at_ r]? = some 13 ∧ ∃ c, b[stopAt at_ r + 2]? = some c ∧ blank c = false := by
  obtain ⟨c0, t0, h0, h1⟩ := h.after 0
  obtain ⟨c2, t2, h2, h3⟩ := h.after 2
  exact ⟨h1, c2, h3, h2⟩
theorem InB.no (h : InB b at_ r) (hok : RawOk lo r) {j : Nat} (h1 : at_ ≤ j) (h2 : j < stopAt at_ r) : ∃ x, b[j]? = some x ∧ (x ≠ 13 ∨ (lo = true ∧ ∃ c, b[j + 2]? = some c ∧ blank c = true)) := by
  unfold stopAt at h2
  by_cases q1 : j < at_ + r.name.length
  · obtain ⟨i, rfl⟩ : ∃ i, j = at_ + i := ⟨j - at_, by omega⟩
    have hi : i < r.name.length := by omega
    refine ⟨r.name[i], by rw [h.name hi, List.getElem?_eq_getElem hi], .inl fun e => ?_⟩
    have := (named_iff _).1 (hok.nm.all _ (List.getElem_mem hi))
    rw [e] at this
    simp at this
  · by_cases q2 : j = at_ + r.name.length
    · subst q2
      exact ⟨58, h.colon, .inl (by decide)⟩
    · obtain ⟨k, rfl⟩ : ∃ k, j = at_ + r.name.length + 1 + k := ⟨j - (at_ + r.name.length + 1), by omega⟩
      have hk : k < r.raw.length := by omega
      refine ⟨r.raw[k], by rw [h.raw hk, List.getElem?_eq_getElem hk], ?_⟩
      by_cases e : r.raw[k] = 13
      · obtain ⟨p1, c, p2, p3, p4⟩ := hok.cr k (by rw [List.getElem?_eq_getElem hk, e])
        refine .inr ⟨p1, c, ?_, p4⟩
        have hk2 : k + 2 < r.raw.length := (List.getElem?_eq_some_iff.1 p3).1
        have := h.raw hk2
        rw [show at_ + r.name.length + 1 + k + 2 = at_ + r.name.length + 1 + (k + 2) by omega, this, p3]
      · exact .inl e
theorem InB.sign (h : InB b at_ r) (hok : RawOk lo r) {j : Nat} (h1 : at_ ≤ j) (h2 : j < at_ + r.name.length) : ∃ x, b[j]? = some x ∧ x ≠ 58 := by
  obtain ⟨i, rfl⟩ : ∃ i, j = at_ + i := ⟨j - at_, by omega⟩
  have hi : i < r.name.length := by omega
  refine ⟨r.name[i], by rw [h.name hi, List.getElem?_eq_getElem hi], fun e => ?_⟩
  have := (named_iff _).1 (hok.nm.all _ (List.getElem_mem hi))
  rw [e] at this
  simp at this
theorem InB.len (h : InB b at_ r) : stopAt at_ r + 2 < b.length := by
  obtain ⟨-, c, h1, -⟩ := h.yes
  exact (List.getElem?_eq_some_iff.1 h1).1
theorem InB.nameS (h : InB b at_ r) : (b.take (at_ + r.name.length)).drop at_ = r.name := by
  obtain ⟨P, c, t, rfl, rfl, hc⟩ := h.ex
  rw [List.take_length_add_append, List.drop_left, List.take_left]
theorem InB.rawS (h : InB b at_ r) : (b.take (stopAt at_ r)).drop (at_ + r.name.length + 1) = r.raw := by
  obtain ⟨P, c, t, rfl, rfl, hc⟩ := h.ex
  unfold stopAt
  have e : P ++ (r.name ++ 58 :: (r.raw ++ 13 :: 10 :: c :: t)) = (P ++ r.name ++ [58]) ++ (r.raw ++ 13 :: 10 :: c :: t) := by simp
  have l : P.length + r.name.length + 1 = (P ++ r.name ++ [58]).length := by simp; omega
  rw [e, l, List.take_length_add_append, List.drop_left, List.take_left]
end
end Go.Proofs.YtkalllenggmgoaaDoor
