/- Blocks of many equal lines: plain. -/
import Derived.Test.YtkalllenggmgoaaDoorFi
namespace Go.Proofs.YtkalllenggmgoaaDoor
set_option linter.unusedVariables false
set_option linter.unusedSimpArgs false

def lA (n : Nat) : List Hd := List.replicate n ⟨[65], []⟩
def bA (n : Nat) : List UInt8 := bodyL (lA n)
theorem lA_len (n : Nat) : (lA n).length = n := by simp [lA]
theorem lA_succ (n : Nat) : lA (n + 1) = lA n ++ [⟨[65], []⟩] := by unfold lA; rw [List.replicate_succ']
theorem lA_add (n m : Nat) : lA (n + m) = lA n ++ lA m := (List.replicate_append_replicate).symm
theorem bA_succ (n : Nat) : bA (n + 1) = bA n ++ [65, 58, 32, 13, 10] := by
  unfold bA bodyL
  rw [lA_succ, List.flatMap_append]
  rfl
theorem bA_add (n m : Nat) : bA (n + m) = bA n ++ bA m := by
  unfold bA bodyL
  rw [lA_add, List.flatMap_append]
theorem bA_len (n : Nat) : (bA n).length = 5 * n := by
  induction n with
  | zero => rfl
  | succ n ih => rw [bA_succ, List.length_append, ih]; simp; omega
theorem bA_cons (m : Nat) (h : 0 < m) : ∃ r, bA m = 65 :: r := by
  obtain ⟨k, rfl⟩ : ∃ k, m = 1 + k := ⟨m - 1, by omega⟩
  rw [bA_add]
  exact ⟨_, rfl⟩
theorem okA : HdOk ⟨[65], []⟩ := (validH_iff _).1 (by decide)
theorem lA_ok (n : Nat) : ∀ h ∈ lA n, HdOk h := fun h hh => by
  rw [List.eq_of_mem_replicate hh]
  exact okA
theorem lA_small (n : Nat) : Small (lA n) := fun h hh => by
  rw [List.eq_of_mem_replicate hh]
  exact ⟨by simp, by simp⟩
theorem validA {n : Nat} (h : n ≤ 100) : validL (lA n) = true := (validL_iff _).2 ⟨by rw [lA_len]; exact h, lA_ok n⟩
theorem validA' {n : Nat} (h : 100 < n) : validL (lA n) = false := by
  cases hv : validL (lA n) with
  | false => rfl
  | true => have := ((validL_iff _).1 hv).1; rw [lA_len] at this; omega
theorem scanA {n : Nat} (h : n ≤ 100) (lo : Bool) : scanR (bA n) lo = ⟨-1, 2, -1⟩ := by
  obtain ⟨s', e1, e2, e3, e4⟩ := run_lines (lA n) (Sc.init lo) 0 [] (lA_ok n) (by show 0 + _ ≤ _; rw [lA_len]; omega) (fun _ => rfl)
  rw [List.append_nil] at e1
  have : scanF (bA n) lo = (0, s') := e1
  unfold scanR resF
  rw [this]
  simp only [show ¬ (0 = 8) by decide, show ¬ (0 = 9) by decide, if_false]
  unfold needsF
  cases s'.loose <;> rfl
theorem scanA' {n : Nat} (h : 100 < n) (lo : Bool) (rest : List UInt8) : scanR (bA n ++ rest) lo = ⟨-1, 0, 500⟩ := by
  obtain ⟨m, rfl⟩ : ∃ m, n = 100 + m := ⟨n - 100, by omega⟩
  obtain ⟨r, hr⟩ := bA_cons m (by omega)
  rw [bA_add, hr, List.append_assoc, List.cons_append]
  obtain ⟨s', e1, e2, e3, e4⟩ := run_lines (lA 100) (Sc.init lo) 0 (65 :: (r ++ rest)) (lA_ok 100) (by show 0 + _ ≤ _; rw [lA_len]; omega) (fun _ => rfl)
  have hd : s'.dn.length = 100 := by
    have := congrArg List.length e3
    simpa [lA_len, Sc.init, Sc.dn, Ln.new] using this
  have h5 : 0 + ((lA 100).flatMap lineOf).length = 500 := by
    have := bA_len 100
    unfold bA bodyL at this
    omega
  rw [h5] at e1
  have b65 : blank 65 = false := by decide
  have st : stepF 0 (s'.to 500) 65 = (9, { s'.to 500 with done := (s'.to 500).dn, ln := Ln.new (s'.to 500).place }) := by
    show sBegin _ 65 = _
    unfold sBegin
    have hd' : (s'.to 500).dn.length = 100 := hd
    simp [b65, hd']
  have : scanF (bA 100 ++ 65 :: (r ++ rest)) lo = (9, { s'.to 500 with done := (s'.to 500).dn, ln := Ln.new (s'.to 500).place }) := by
    refine e1.trans ?_
    rw [runF, st]
    simp
  unfold scanR resF
  rw [this]
  simp [Sc.to]
theorem readA' {n : Nat} (h : 100 < n) (lo : Bool) : readF (bA n ++ [13, 10]) lo = (6, []) := by
  unfold readF
  rw [scanA' h]
  simp
theorem readA {n : Nat} (h : n ≤ 100) (lo : Bool) : readF (bA n ++ [13, 10]) lo = (0, lA n) := readF_write (lA n) (validA h) lo
end Go.Proofs.YtkalllenggmgoaaDoor
