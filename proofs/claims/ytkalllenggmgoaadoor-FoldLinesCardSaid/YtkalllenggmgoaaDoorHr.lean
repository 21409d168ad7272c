/- A list of headers, opened. -/
import Derived.Test.YtkalllenggmgoaaDoorRows
import Derived.WalkKit
import Derived.ProofKit
import Derived.OpenShut
import Derived.Deep.Slices
import Derived.Deep.Fields
import Derived.Test.YtkalllenggmgoaaDoorFr
import Derived.Test.YtkalllenggmgoaaDoorFi
namespace Go.Proofs.YtkalllenggmgoaaDoor
open Go.ChangeShapes Go.WideShapes Go.ChangeAt Go.RowKit
set_option linter.unusedVariables false

section
variable {H : Type} {enc : TypeId × Value → H} {W : World}
set_option maxRecDepth 100000 in
theorem hdT {n : Nat} {cs : List Value} {y : DataW H × List MemPlace} (ht : DataW.trod enc Tryd.prog W 0 (fun _ => true) true n 25 cs = some y) (hl : cs.length = 2) : ∃ p : Hd, cs = p.cells := by
  obtain ⟨ys, n', _, _, _, hyl, hg⟩ := DataW.trod_struct Tryd.underlying25 ht
  match cs, hl with
  | [v0, v1], _ =>
    match ys, hyl with
    | [y0, y1], _ =>
      have t0 := hg 0 _ rfl
      have t1 := hg 1 _ rfl
      have c9 : Tryd.prog.cellsOf 9 = 1 := by kernel_rfl
      simp [c9] at t0 t1
      obtain ⟨a, e0, _⟩ := DataW.trod_string Tryd.underlying9 t0
      obtain ⟨b, e1, _⟩ := DataW.trod_string Tryd.underlying9 t1
      simp at e0 e1
      subst e0 e1
      exact ⟨⟨a.data.toList, b.data.toList⟩, rfl⟩
/-- Rows of cells that lie one behind the other. -/
theorem cells_flat {α : Type} {w : World} {a : Addr} {k : Nat} {f : Nat → α} {g : α → List Value} (hk : ∀ x, (g x).length = k) : ∀ (n : Nat), (∀ i, i < n → ∀ j u, (g (f i))[j]? = some u → w.cell? (a.add (i * k + j)) = some u) → ∀ j u, (((List.range n).map f).flatMap g)[j]? = some u → w.cell? (a.add j) = some u
  | 0, _, j, u, h => by simp at h
  | n + 1, hi, j, u, h => by
    rw [List.range_succ, List.map_append, List.flatMap_append] at h
    have hl : (((List.range n).map f).flatMap g).length = n * k := by
      rw [List.length_flatMap, List.map_map]
      have : ((fun a => (g a).length) ∘ f) = fun _ => k := funext fun x => hk _
      rw [this, List.map_const', List.sum_replicate_nat, List.length_range]
    by_cases hj : j < n * k
    · rw [List.getElem?_append_left (by rw [hl]; exact hj)] at h
      exact cells_flat hk n (fun i h' => hi i (by omega)) j u h
    · rw [List.getElem?_append_right (by rw [hl]; omega), hl] at h
      simp at h
      have := hi n (by omega) (j - n * k) u h
      rwa [show n * k + (j - n * k) = j by omega] at this
set_option maxRecDepth 100000 in
theorem open_headers {fuel : Nat} {A : Option Addr} {len cap : Nat} {x : DataW H × List MemPlace} (hf : DataW.trod enc Tryd.prog W 0 (fun _ => true) true fuel 22 (Value.cells (.slice A len cap)).toList = some x) : ∃ hs : List Hd, HL W A len cap hs := by
  rcases Go.Deep.open_slice Tryd.underlying22 hf with ⟨hcs, _⟩ | ⟨a, l, c, m, n, D, Pl, hcs, _, hl, hm, hmm, hx, hi⟩
  · simp [Value.cells] at hcs
    obtain ⟨rfl, rfl, rfl⟩ := hcs
    exact ⟨[], HL.nil _⟩
  · simp [Value.cells] at hcs
    obtain ⟨rfl, rfl, rfl⟩ := hcs
    have hC : Tryd.prog.cellsOf 25 = 2 := by kernel_rfl
    have hm2 : m = cap := by simpa using hmm
    have each : ∀ i, ∃ p : Hd, i < len → (∀ j u, p.cells[j]? = some u → W.cell? (a.add (i * 2 + j)) = some u) := by
      intro i
      by_cases hlt : i < len
      · obtain ⟨cs', hc, ht⟩ := hi i (by omega)
        rw [hC] at hc
        obtain ⟨_, hcl, hat⟩ := World.cells?_some hc
        obtain ⟨p, rfl⟩ := hdT ht hcl
        refine ⟨p, fun _ j u hu => ?_⟩
        have hj : j < p.cells.length := (List.getElem?_eq_some_iff.1 hu).1
        have := hat j (by rw [hcl] at hj; exact hj)
        rw [Go.Deep.add_add] at this
        rw [this]
        first | exact hu | (rw [← hu]; simp [List.getElem?_eq_getElem hj])
      · exact ⟨⟨[], []⟩, fun h => absurd h hlt⟩
    obtain ⟨f, hF⟩ := Classical.axiomOfChoice each
    have hk2 : ∀ x : Hd, x.cells.length = 2 := fun _ => rfl
    refine ⟨(List.range len).map f, by simp, ⟨?_, (fun h => by cases h), fun b hb => ?_⟩, by omega, by omega, fun h => (by cases h)⟩
    · rw [List.length_flatMap, List.map_map]
      have : ((fun a => (Hd.cells a).length) ∘ f) = fun _ => 2 := funext fun x => hk2 _
      rw [this, List.map_const', List.sum_replicate_nat, List.length_range]
    · cases hb
      exact cells_flat (k := 2) (g := Hd.cells) hk2 len fun i h => hF i h
end
end Go.Proofs.YtkalllenggmgoaaDoor
