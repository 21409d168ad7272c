/- A list of calls, opened. -/
import Derived.Test.YtkihoekldklkhaaDoorHr
import Derived.Test.YtkihoekldklkhaaDoorL4
namespace Go.Proofs.YtkihoekldklkhaaDoor
open Go.ChangeShapes Go.WideShapes Go.ChangeAt Go.RowKit
set_option linter.unusedVariables false

theorem AL.nil (W : World) : AL W none 0 0 [] := ⟨rfl, ⟨rfl, fun _ => rfl, fun b hb => by cases hb⟩, Nat.le_refl _, by unfold maxLen; omega, fun _ => rfl, fun x hx => by simp at hx⟩
section
variable {H : Type} {enc : TypeId × Value → H} {W : World}
set_option maxRecDepth 100000 in
theorem acT {n : Nat} {cs : List Value} {y : DataW H × List MemPlace} (ht : DataW.trod enc Tryd.prog W 0 (fun _ => true) true n 54 cs = some y) (hl : cs.length = 2) : ∃ p : Ac, cs = AcC p ∧ 0 ≤ p.k ∧ p.k < 256 := by
  obtain ⟨ys, n', _, _, _, hyl, hg⟩ := DataW.trod_struct Tryd.underlying54 ht
  match cs, hl with
  | [v0, v1], _ =>
    match ys, hyl with
    | [y0, y1], _ =>
      have t0 := hg 0 _ rfl
      have t1 := hg 1 _ rfl
      have c5 : Tryd.prog.cellsOf 5 = 1 := by kernel_rfl
      have c9 : Tryd.prog.cellsOf 9 = 1 := by kernel_rfl
      simp [c5, c9] at t0 t1
      obtain ⟨k, e0, _, w0⟩ := DataW.trod_int Tryd.underlying5 t0
      obtain ⟨t, e1, _⟩ := DataW.trod_string Tryd.underlying9 t1
      simp at e0 e1
      subst e0 e1
      exact ⟨⟨k, t⟩, rfl, byte_wf w0⟩
set_option maxRecDepth 100000 in
theorem open_calls {fuel : Nat} {A : Option Addr} {len cap : Nat} {x : DataW H × List MemPlace} (hf : DataW.trod enc Tryd.prog W 0 (fun _ => true) true fuel 46 (Value.cells (.slice A len cap)).toList = some x) : ∃ hs : List Ac, AL W A len cap hs := by
  rcases Go.Deep.open_slice Tryd.underlying46 hf with ⟨hcs, _⟩ | ⟨a, l, c, m, n, D, Pl, hcs, _, hl, hm, hmm, hx, hi⟩
  · simp [Value.cells] at hcs
    obtain ⟨rfl, rfl, rfl⟩ := hcs
    exact ⟨[], AL.nil _⟩
  · simp [Value.cells] at hcs
    obtain ⟨rfl, rfl, rfl⟩ := hcs
    have hC : Tryd.prog.cellsOf 54 = 2 := by kernel_rfl
    have hm2 : m = cap := by simpa using hmm
    have each : ∀ i, ∃ p : Ac, (i < len → (∀ j u, (AcC p)[j]? = some u → W.cell? (a.add (i * 2 + j)) = some u)) ∧ 0 ≤ p.k ∧ p.k < 256 := by
      intro i
      by_cases hlt : i < len
      · obtain ⟨cs', hc, ht⟩ := hi i (by omega)
        rw [hC] at hc
        obtain ⟨_, hcl, hat⟩ := World.cells?_some hc
        obtain ⟨p, rfl, hp⟩ := acT ht hcl
        refine ⟨p, fun _ j u hu => ?_, hp⟩
        have hj : j < (AcC p).length := (List.getElem?_eq_some_iff.1 hu).1
        have := hat j (by rw [hcl] at hj; exact hj)
        rw [Go.Deep.add_add] at this
        rw [this]
        first | exact hu | (rw [← hu]; simp [List.getElem?_eq_getElem hj])
      · exact ⟨⟨0, ⟨#[]⟩⟩, fun h => absurd h hlt, by decide, by decide⟩
    obtain ⟨f, hF⟩ := Classical.axiomOfChoice each
    have hk2 : ∀ x : Ac, (AcC x).length = 2 := fun _ => rfl
    refine ⟨(List.range len).map f, by simp, ⟨?_, (fun h => by cases h), fun b hb => ?_⟩, by omega, by omega, fun h => (by cases h), fun x hx => ?_⟩
    · rw [List.length_flatMap, List.map_map]
      have : ((fun a => (AcC a).length) ∘ f) = fun _ => 2 := funext fun x => hk2 _
      rw [this, List.map_const', List.sum_replicate_nat, List.length_range]
    · cases hb
      exact cells_flat (k := 2) (g := AcC) hk2 len fun i h => (hF i).1 h
    · obtain ⟨i, _, rfl⟩ := List.mem_map.1 hx
      exact (hF i).2
end
end Go.Proofs.YtkihoekldklkhaaDoor
