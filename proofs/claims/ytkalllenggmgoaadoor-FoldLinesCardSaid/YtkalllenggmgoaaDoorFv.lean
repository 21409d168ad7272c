/- What a further byte does: plain. -/
import Derived.Test.YtkalllenggmgoaaDoorFa
namespace Go.Proofs.YtkalllenggmgoaaDoor
set_option linter.unusedVariables false
set_option linter.unusedSimpArgs false

def StOk (st : Nat) (lo : Bool) : Prop := st ≤ 7 ∧ (lo = true → st ≠ 2 ∧ st ≠ 3 ∧ st ≠ 5)
theorem next_ok {st : Nat} {lo : Bool} (h : StOk st lo) (c : UInt8) (nm ln : Nat) :
    nextR st c lo nm ln = 9 ∨ (nextR st c lo nm ln = 8 ∧ needsR st lo = 1) ∨ (nextR st c lo nm ln ≠ 8 ∧ nextR st c lo nm ln ≠ 9 ∧ StOk (nextR st c lo nm ln) lo ∧ needsR st lo ≤ needsR (nextR st c lo nm ln) lo + 1) := by
  obtain ⟨h7, h2⟩ := h
  rcases (by omega : st = 0 ∨ st = 1 ∨ st = 2 ∨ st = 3 ∨ st = 4 ∨ st = 5 ∨ st = 6 ∨ st = 7) with e | e | e | e | e | e | e | e <;> subst e <;> cases lo <;>
    first
      | (exact absurd rfl (h2 rfl).1)
      | (exact absurd rfl (h2 rfl).2.1)
      | (exact absurd rfl (h2 rfl).2.2)
      | (unfold nextR; simp only [Bool.false_and, Bool.true_and, Bool.or_false, Bool.false_eq_true, if_false, if_true]; (repeat' split) <;> simp [StOk, needsR]; try (rename_i x1 x2 x3; subst x3; exact x1 (by decide)))
theorem next_less {st : Nat} {lo : Bool} (h : StOk st lo) : ∃ c : UInt8, ∀ nm ln : Nat,
    (nextR st c lo nm ln = 8 ∧ needsR st lo = 1) ∨ (nextR st c lo nm ln ≠ 8 ∧ nextR st c lo nm ln ≠ 9 ∧ StOk (nextR st c lo nm ln) lo ∧ needsR st lo = needsR (nextR st c lo nm ln) lo + 1) := by
  obtain ⟨h7, h2⟩ := h
  have b13 : blank 13 = false := by decide
  have v13 : vis 13 = false := by decide
  have v33 : vis 33 = true := by decide
  rcases (by omega : st = 0 ∨ st = 1 ∨ st = 2 ∨ st = 3 ∨ st = 4 ∨ st = 5 ∨ st = 6 ∨ st = 7) with e | e | e | e | e | e | e | e <;> subst e <;> cases lo <;>
    first
      | (exact absurd rfl (h2 rfl).1)
      | (exact absurd rfl (h2 rfl).2.1)
      | (exact absurd rfl (h2 rfl).2.2)
      | skip
  · exact ⟨13, fun nm ln => by simp [nextR, b13, StOk, needsR]⟩
  · exact ⟨13, fun nm ln => by simp [nextR, b13, StOk, needsR]⟩
  · exact ⟨58, fun nm ln => by simp [nextR, StOk, needsR]⟩
  · exact ⟨58, fun nm ln => by simp [nextR, StOk, needsR]⟩
  · exact ⟨32, fun nm ln => by simp [nextR, StOk, needsR]⟩
  · exact ⟨13, fun nm ln => by simp [nextR, b13, v13, StOk, needsR]⟩
  · exact ⟨13, fun nm ln => by simp [nextR, b13, v13, StOk, needsR]⟩
  · exact ⟨13, fun nm ln => by simp [nextR, b13, v13, StOk, needsR]⟩
  · exact ⟨33, fun nm ln => by simp [nextR, v33, StOk, needsR]⟩
  · exact ⟨10, fun nm ln => by simp [nextR, StOk, needsR]⟩
  · exact ⟨10, fun nm ln => by simp [nextR, StOk, needsR]⟩
  · exact ⟨10, fun nm ln => by simp [nextR, StOk, needsR]⟩
  · exact ⟨10, fun nm ln => by simp [nextR, StOk, needsR]⟩
theorem needs_posR {st : Nat} {lo : Bool} (h : StOk st lo) : 0 < needsR st lo := by
  obtain ⟨h7, h2⟩ := h
  rcases (by omega : st = 0 ∨ st = 1 ∨ st = 2 ∨ st = 3 ∨ st = 4 ∨ st = 5 ∨ st = 6 ∨ st = 7) with e | e | e | e | e | e | e | e <;> subst e <;> cases lo <;> simp [needsR]
/-- A run ends, or goes on from a state. -/
theorem runR_app (lo : Bool) (l : List UInt8) : ∀ (st nm ln i : Nat), StOk st lo →
    (∃ r : Scd, (∀ m, runR lo st nm ln i (l ++ m) = r) ∧ ((∃ a : Nat, r = ⟨-1, 0, a⟩ ∧ i ≤ a ∧ a < i + l.length) ∨ (∃ e : Nat, r = ⟨e, 0, -1⟩ ∧ i < e ∧ e ≤ i + l.length))) ∨
    ∃ st' nm' ln', StOk st' lo ∧ ∀ m, runR lo st nm ln i (l ++ m) = runR lo st' nm' ln' (i + l.length) m := by
  induction l with
  | nil => intro st nm ln i h; exact .inr ⟨st, nm, ln, h, fun m => rfl⟩
  | cons c l ih =>
    intro st nm ln i h
    by_cases h9 : nextR st c lo nm ln = 9
    · exact .inl ⟨_, fun m => by rw [List.cons_append, runR, if_pos h9], .inl ⟨i, rfl, Nat.le_refl _, by simp⟩⟩
    · by_cases h8 : nextR st c lo nm ln = 8
      · refine .inl ⟨⟨((i + 1 : Nat) : Int), 0, -1⟩, fun m => ?_, .inr ⟨i + 1, rfl, by omega, by simp⟩⟩
        rw [List.cons_append, runR, if_neg h9, if_pos h8]
        congr 1
      · have ok : StOk (nextR st c lo nm ln) lo := by
          rcases next_ok h c nm ln with e | e | e
          · exact absurd e h9
          · exact absurd e.1 h8
          · exact e.2.2.1
        have step : ∀ m, runR lo st nm ln i (c :: l ++ m) = runR lo (nextR st c lo nm ln) (nmR st (nextR st c lo nm ln) nm) (lnR st (nextR st c lo nm ln) ln) (i + 1) (l ++ m) := fun m => by
          rw [List.cons_append, runR, if_neg h9, if_neg h8]
        rcases ih _ (nmR st (nextR st c lo nm ln) nm) (lnR st (nextR st c lo nm ln) ln) (i + 1) ok with ⟨r, h1, h2⟩ | ⟨st', nm', ln', h1, h2⟩
        · refine .inl ⟨r, fun m => (step m).trans (h1 m), ?_⟩
          rcases h2 with ⟨a, e, h3, h4⟩ | ⟨a, e, h3, h4⟩
          · exact .inl ⟨a, e, by omega, by simp; omega⟩
          · exact .inr ⟨a, e, by omega, by simp; omega⟩
        · exact .inr ⟨st', nm', ln', h1, fun m => by rw [step m, h2 m]; congr 1; simp; omega⟩
/-- What the further bytes give where some are needed. -/
structure GoC (k n : Nat) (y : UInt8 → Scd) : Prop where
  pos : 0 < k
  all : ∀ c, y c = ⟨-1, 0, n⟩ ∨ (y c = ⟨(n : Int) + 1, 0, -1⟩ ∧ k = 1) ∨ ∃ m : Nat, y c = ⟨-1, m, -1⟩ ∧ k ≤ m + 1 ∧ 0 < m
  one : ∃ c, (y c = ⟨(n : Int) + 1, 0, -1⟩ ∧ k = 1) ∨ ∃ m : Nat, y c = ⟨-1, m, -1⟩ ∧ k = m + 1 ∧ 0 < m
theorem goes (l : List UInt8) (lo : Bool) :
    (∃ a : Nat, a < l.length ∧ scanR l lo = ⟨-1, 0, a⟩ ∧ ∀ c, scanR (l ++ [c]) lo = ⟨-1, 0, a⟩) ∨ (∃ e : Nat, e ≤ l.length ∧ scanR l lo = ⟨e, 0, -1⟩ ∧ ∀ c, scanR (l ++ [c]) lo = ⟨e, 0, -1⟩) ∨
    ∃ k : Nat, scanR l lo = ⟨-1, (k : Int), -1⟩ ∧ k ≤ 10 ∧ GoC k l.length (fun c => scanR (l ++ [c]) lo) := by
  simp only [scanR_ref]
  rcases runR_app lo l 0 0 0 0 ⟨by omega, fun _ => by omega⟩ with ⟨r, h1, h2⟩ | ⟨st, nm, ln, h1, h2⟩
  · have h0 := h1 []
    rw [List.append_nil] at h0
    rcases h2 with ⟨a, e, h3, h4⟩ | ⟨a, e, h3, h4⟩
    · exact .inl ⟨a, by omega, h0.trans e, fun c => (h1 _).trans e⟩
    · exact .inr (.inl ⟨a, by omega, h0.trans e, fun c => (h1 _).trans e⟩)
  · have h0 := h2 []
    rw [List.append_nil] at h0
    refine .inr (.inr ⟨needsR st lo, h0, ?_, needs_posR h1, fun c => ?_, ?_⟩)
    · obtain ⟨h7, -⟩ := h1
      rcases (by omega : st = 0 ∨ st = 1 ∨ st = 2 ∨ st = 3 ∨ st = 4 ∨ st = 5 ∨ st = 6 ∨ st = 7) with e | e | e | e | e | e | e | e <;> subst e <;> cases lo <;> simp [needsR]
    · simp only [h2 [c], Nat.zero_add]
      rcases next_ok h1 c nm ln with e | e | e
      · refine .inl ?_
        rw [runR, if_pos e]
      · refine .inr (.inl ⟨?_, e.2⟩)
        rw [runR, if_neg (by omega), if_pos e.1]
      · refine .inr (.inr ⟨needsR (nextR st c lo nm ln) lo, ?_, e.2.2.2, needs_posR e.2.2.1⟩)
        rw [runR, if_neg e.2.1, if_neg e.1, runR]
    · obtain ⟨c, hc⟩ := next_less h1
      refine ⟨c, ?_⟩
      simp only [h2 [c], Nat.zero_add]
      rcases hc nm ln with e | e
      · refine .inl ⟨?_, e.2⟩
        rw [runR, if_neg (by omega), if_pos e.1]
      · refine .inr ⟨needsR (nextR st c lo nm ln) lo, ?_, e.2.2.2, needs_posR e.2.2.1⟩
        rw [runR, if_neg e.2.1, if_neg e.1, runR]
end Go.Proofs.YtkalllenggmgoaaDoor
