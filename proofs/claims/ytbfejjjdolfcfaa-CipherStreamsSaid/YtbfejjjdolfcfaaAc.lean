/- The law's list of calls, opened. -/
import Derived.Test.YtbfejjjdolfcfaaRows
import Derived.WalkKit
import Derived.ProofKit
import Derived.OpenShut
import Derived.ShutString
import Derived.ChangeOld
import Derived.Below
import Derived.Lib.SmallJoins
import Derived.Deep.Slices
import Derived.Deep.Fields
import Derived.Test.YtbfejjjdolfcfaaFr
import Derived.Test.YtbfejjjdolfcfaaL8
namespace Go.Proofs.Ytbfejjjdolfcfaa
open Go.ChangeShapes Go.WideShapes Go.ChangeAt Go.RowKit Go.Joins
set_option linter.unusedVariables false

section
variable {H : Type} {enc : TypeId × Value → H} {W : World}
theorem bytes_of {n : Nat} {v : Value} {y : DataW H × List MemPlace} (hf : DataW.trod enc Try.prog W 0 (fun _ => true) true n 30 [v] = some y) : ∃ (A : Option Addr) (k c : Nat) (l : List UInt8), v = .slice A k c ∧ l.length = k ∧ Holds W A k (l.map u8) ∧ (A = none → c = 0) := by
  rcases open_ints Try.underlying30 Try.underlying5 (by kernel_rfl) hf with ⟨hcs, _⟩ | ⟨x, l, c, zs, hcs, _, hl, hm, hz, _, hcell, hwz⟩
  · simp at hcs
    exact ⟨none, 0, 0, [], hcs, rfl, holds_nil _, fun _ => rfl⟩
  · simp at hcs
    obtain ⟨L, h1, h2, h3, h4⟩ := bs_of_row hl hm (by simpa using hz) hcell hwz
    exact ⟨_, _, _, L, hcs, h1, h4.holds h1, fun h => by cases h⟩

set_option maxRecDepth 100000 in
theorem open_acts {fuel : Nat} {A : Option Addr} {len cap : Nat} {x : DataW H × List MemPlace} (hf : DataW.trod enc Try.prog W 0 (fun _ => true) true fuel 53 (Value.cells (.slice A len cap)).toList = some x) : ∃ f : Nat → ActV, ActS W A len f := by
  rcases Go.Deep.open_slice Try.underlying53 hf with ⟨hcs, _⟩ | ⟨a, l, c, m, n, D, Pl, hcs, _, hl, hm, hmm, _, hi⟩
  · simp [Value.cells] at hcs
    obtain ⟨rfl, rfl, rfl⟩ := hcs
    exact ⟨fun _ => ⟨0, none, 0, 0, [], 0⟩, fun i hi => absurd hi (Nat.not_lt_zero i)⟩
  · simp [Value.cells] at hcs
    obtain ⟨rfl, rfl, rfl⟩ := hcs
    have hC : Try.prog.cellsOf 55 = 3 := by kernel_rfl
    have hm2 : m = cap := by simpa using hmm
    have each : ∀ i, i < len → ∃ X : ActV, W.cell? (a.add (i * 3)) = some (.int .u8 X.k) ∧ W.cell? (a.add (i * 3 + 1)) = some (.slice X.A X.n X.c) ∧ W.cell? (a.add (i * 3 + 2)) = some (.int .i64 X.at') ∧ 0 ≤ X.k ∧ X.k < 256 ∧ X.l.length = X.n ∧ Holds W X.A X.n (X.l.map u8) ∧ (X.A = none → X.c = 0) := by
      intro i hlt
      obtain ⟨cs', hc, ht⟩ := hi i (by omega)
      rw [hC] at hc
      obtain ⟨_, hcl, hat⟩ := World.cells?_some hc
      obtain ⟨ys, n', _, _, _, hyl, hg⟩ := DataW.trod_struct Try.underlying55 ht
      match cs', hcl with
      | [v0, v1, v2], _ =>
        match ys, hyl with
        | [y0, y1, y2], _ =>
          have t0 := hg 0 _ rfl
          have t1 := hg 1 _ rfl
          have t2 := hg 2 _ rfl
          have c3 : Try.prog.cellsOf 3 = 1 := by kernel_rfl
          have c5 : Try.prog.cellsOf 5 = 1 := by kernel_rfl
          have c30 : Try.prog.cellsOf 30 = 1 := by kernel_rfl
          simp [c3, c5, c30] at t0 t1 t2
          have a0 := hat 0 (by omega)
          have a1 := hat 1 (by omega)
          have a2 := hat 2 (by omega)
          rw [Go.Deep.add_add] at a0 a1 a2
          simp at a0 a1 a2
          obtain ⟨k, e0, _, w0⟩ := DataW.trod_int Try.underlying5 t0
          obtain ⟨A1, n1, c1, l1, e1, h1, h2, h3⟩ := bytes_of t1
          obtain ⟨b, e2, _, _⟩ := DataW.trod_int Try.underlying3 t2
          simp at e0 e2
          subst e0 e1 e2
          have hk := byte_wf w0
          exact ⟨⟨k, A1, n1, c1, l1, b⟩, a0, a1, a2, hk.1, hk.2, h1, h2, h3⟩
    have each' : ∀ i, ∃ X : ActV, i < len → W.cell? (a.add (i * 3)) = some (.int .u8 X.k) ∧ W.cell? (a.add (i * 3 + 1)) = some (.slice X.A X.n X.c) ∧ W.cell? (a.add (i * 3 + 2)) = some (.int .i64 X.at') ∧ 0 ≤ X.k ∧ X.k < 256 ∧ X.l.length = X.n ∧ Holds W X.A X.n (X.l.map u8) ∧ (X.A = none → X.c = 0) := by
      intro i
      by_cases h : i < len
      · obtain ⟨X, hX⟩ := each i h
        exact ⟨X, fun _ => hX⟩
      · exact ⟨⟨0, none, 0, 0, [], 0⟩, fun h' => absurd h' h⟩
    obtain ⟨f, hF⟩ := Classical.axiomOfChoice each'
    refine ⟨f, fun i hlt => ?_⟩
    have hsp := hF 0 (by omega)
    have h := hF i hlt
    have hs : a.spot = none := by have := World.cell?_spot hsp.1; simpa [Addr.add] using this
    obtain ⟨b, o, spot⟩ := a
    simp at hs
    subst hs
    obtain ⟨h1, h2, h3, h4, h5, h6, h7, h8⟩ := h
    rw [Addr.add_lit] at h1 h2 h3
    exact ⟨b, o, rfl, ⟨h1, h2, h3⟩, h4, h5, h6, h7, h8⟩
end
end Go.Proofs.Ytbfejjjdolfcfaa
