/- How long what was read is: plain. -/
import Derived.Test.YtkalllenggmgoaaDoorFi
namespace Go.Proofs.YtkalllenggmgoaaDoor
set_option linter.unusedVariables false
set_option linter.unusedSimpArgs false

theorem txF_len' (r : List UInt8) : ((txF r.reverse).spr = true → 0 < (txF r.reverse).gap.length) ∧ (txF r.reverse).text.length + (txF r.reverse).gap.length ≤ r.reverse.length := by
  induction r with
  | nil => exact ⟨fun h => (by cases h), Nat.le_refl _⟩
  | cons c r ih =>
    rw [List.reverse_cons]
    generalize r.reverse = raw at *
    rw [txF_snoc]
    obtain ⟨h1, h2⟩ := ih
    split
    · refine ⟨fun h => (by cases h), ?_⟩
      show ((if (txF raw).text.isEmpty then [] else (txF raw).text ++ (txF raw).eff) ++ [c]).length + 0 ≤ _
      have he : (txF raw).eff.length ≤ (txF raw).gap.length := by
        unfold Ln.eff
        split
        · rename_i h; exact h1 h
        · exact Nat.le_refl _
      rw [List.length_append, List.length_append]
      split
      · simp
      · rw [List.length_append]; simp; omega
    · refine ⟨fun _ => ?_, ?_⟩
      · show 0 < ((txF raw).gap ++ [c]).length
        simp
      · show (txF raw).text.length + ((txF raw).gap ++ [c]).length ≤ _
        simp; omega
theorem txF_len (raw : List UInt8) : ((txF raw).spr = true → 0 < (txF raw).gap.length) ∧ (txF raw).text.length + (txF raw).gap.length ≤ raw.length := by
  have := txF_len' raw.reverse
  rwa [List.reverse_reverse] at this
theorem raw_le {r : Raw} {rs : List Raw} (h : r ∈ rs) : r.raw.length ≤ (bytesOf rs).length := by
  unfold bytesOf
  induction rs with
  | nil => cases h
  | cons q rs ih =>
    rw [List.flatMap_cons, List.length_append]
    rcases List.mem_cons.1 h with rfl | h
    · unfold Raw.b; simp; omega
    · have := ih h; omega
theorem readF_len {l : List UInt8} {lo : Bool} (h : (readF l lo).1 = 0) : ∀ x ∈ (readF l lo).2, x.n.length ≤ 32 ∧ x.t.length ≤ l.length := by
  obtain ⟨rs, hb, e⟩ := readF_0 h
  rw [e, hb.hds]
  intro x hx
  unfold hdsOf at hx
  obtain ⟨r, hr, rfl⟩ := List.mem_map.1 hx
  refine ⟨(hb.ok r hr).nm.few, ?_⟩
  have h1 := (txF_len r.raw).2
  have h2 := raw_le hr
  have h3 := congrArg List.length hb.bytes
  rw [List.take_length, List.length_append] at h3
  show (txF r.raw).text.length ≤ _
  omega
theorem writeL_len (l : List Hd) (a b : Nat) (h : ∀ x ∈ l, x.n.length ≤ a ∧ x.t.length ≤ b) : (writeL l).length ≤ l.length * (a + b + 4) + 2 := by
  unfold writeL
  rw [List.length_append]
  have : (l.flatMap lineOf).length ≤ l.length * (a + b + 4) := by
    induction l with
    | nil => simp
    | cons p l ih =>
      rw [List.flatMap_cons, List.length_append, lineOf_len, List.length_cons, Nat.succ_mul]
      have := ih fun x hx => h x (List.mem_cons_of_mem _ hx)
      have := h p List.mem_cons_self
      omega
  exact Nat.add_le_add_right this 2
end Go.Proofs.YtkalllenggmgoaaDoor
