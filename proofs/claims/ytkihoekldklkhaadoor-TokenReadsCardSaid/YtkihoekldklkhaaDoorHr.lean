/- A list of tokens, opened. -/
import Derived.Test.YtkihoekldklkhaaDoorRows
import Derived.WalkKit
import Derived.ProofKit
import Derived.OpenShut
import Derived.Deep.Slices
import Derived.Deep.Fields
import Derived.Test.YtkihoekldklkhaaDoorFr
import Derived.Test.YtkihoekldklkhaaDoorTu
namespace Go.Proofs.YtkihoekldklkhaaDoor
open Go.ChangeShapes Go.WideShapes Go.ChangeAt Go.RowKit
set_option linter.unusedVariables false

/-- A slice of tokens. -/
structure TL (W : World) (A : Option Addr) (n c : Nat) (xs : List Td) : Prop where
  len : xs.length = n
  h : HoldsS W 5 A n (xs.flatMap TdC)
  nc : n ≤ c
  cm : c ≤ maxLen
  z : A = none → c = 0
theorem TL.nil (W : World) : TL W none 0 0 [] := ⟨rfl, ⟨rfl, fun _ => rfl, fun b hb => by cases hb⟩, Nat.le_refl _, by unfold maxLen; omega, fun _ => rfl⟩

section
variable {H : Type} {enc : TypeId × Value → H} {W : World}
set_option maxRecDepth 100000 in
theorem tdT {n : Nat} {cs : List Value} {y : DataW H × List MemPlace} (ht : DataW.trod enc Tryd.prog W 0 (fun _ => true) true n 32 cs = some y) (hl : cs.length = 5) : ∃ p : Td, cs = TdC p := by
  obtain ⟨ys, n', _, _, _, hyl, hg⟩ := DataW.trod_struct Tryd.underlying32 ht
  match cs, hl with
  | [v0, v1, v2, v3, v4], _ =>
    match ys, hyl with
    | [y0, y1, y2, y3], _ =>
      have t0 := hg 0 _ rfl
      have t1 := hg 1 _ rfl
      have t2 := hg 2 _ rfl
      have t3 := hg 3 _ rfl
      have cK : Tryd.prog.cellsOf 30 = 1 := by kernel_rfl
      have c9 : Tryd.prog.cellsOf 9 = 1 := by kernel_rfl
      have c3 : Tryd.prog.cellsOf 3 = 1 := by kernel_rfl
      have cP : Tryd.prog.cellsOf 26 = 2 := by kernel_rfl
      simp [cK, c9, c3, cP] at t0 t1 t2 t3
      obtain ⟨k, e0, _⟩ := DataW.trod_int Tryd.underlying30 t0
      obtain ⟨t, e1, _⟩ := DataW.trod_string Tryd.underlying9 t1
      obtain ⟨v, e2, _⟩ := DataW.trod_int Tryd.underlying3 t2
      obtain ⟨zs, n2, _, _, _, hzl, hz⟩ := DataW.trod_struct Tryd.underlying26 t3
      match zs, hzl with
      | [z0, z1], _ =>
        have s0 := hz 0 _ rfl
        have s1 := hz 1 _ rfl
        have cI : Tryd.prog.cellsOf 3 = 1 := by kernel_rfl
        simp [cI] at s0 s1
        obtain ⟨ln, e3, _⟩ := DataW.trod_int Tryd.underlying3 s0
        obtain ⟨cl, e4, _⟩ := DataW.trod_int Tryd.underlying3 s1
        simp at e0 e1 e2 e3 e4
        subst e0 e1 e2 e3 e4
        exact ⟨⟨k, t.data.toList, v, ln, cl⟩, rfl⟩
/-- Rows of cells that lie one behind the other. -/
theorem cells_flat {α : Type} {w : World} {a : Addr} {k : Nat} {f : Nat → α} {g : α → List Value} (hk : ∀ x, (g x).length = k) : ∀ (n : Nat), (∀ i, i < n → ∀ j u, (g (f i))[j]? = some u → w.cell? (a.add (i * k + j)) = some u) → ∀ j u, (((List.range n).map f).flatMap g)[j]? = some u → w.cell? (a.add j) = some u
  | 0, _, j, u, h => by simp at h
  | n + 1, hi, j, u, h => by
    rw [List.range_succ, List.map_append, List.flatMap_append] at h
    have hl : (((List.range n).map f).flatMap g).length = n * k := by
      rw [List.length_flatMap, List.map_map]
      have : ((fun a => (g a).length) ∘ f) = fun _ => k := funext fun x => hk _
      rw [this, List.map_const', List.sum_replicate_nat, List.length_range]
    by_cases hj : j < n * k
    · rw [List.getElem?_append_left (by rw [hl]; exact hj)] at h
      exact cells_flat hk n (fun i h' => hi i (by omega)) j u h
    · rw [List.getElem?_append_right (by rw [hl]; omega), hl] at h
      simp at h
      have := hi n (by omega) (j - n * k) u h
      rwa [show n * k + (j - n * k) = j by omega] at this
set_option maxRecDepth 100000 in
theorem open_tokens {fuel : Nat} {A : Option Addr} {len cap : Nat} {x : DataW H × List MemPlace} (hf : DataW.trod enc Tryd.prog W 0 (fun _ => true) true fuel 24 (Value.cells (.slice A len cap)).toList = some x) : ∃ hs : List Td, TL W A len cap hs := by
  rcases Go.Deep.open_slice Tryd.underlying24 hf with ⟨hcs, _⟩ | ⟨a, l, c, m, n, D, Pl, hcs, _, hl, hm, hmm, hx, hi⟩
  · simp [Value.cells] at hcs
    obtain ⟨rfl, rfl, rfl⟩ := hcs
    exact ⟨[], TL.nil _⟩
  · simp [Value.cells] at hcs
    obtain ⟨rfl, rfl, rfl⟩ := hcs
    have hC : Tryd.prog.cellsOf 32 = 5 := by kernel_rfl
    have hm2 : m = cap := by simpa using hmm
    have each : ∀ i, ∃ p : Td, i < len → (∀ j u, (TdC p)[j]? = some u → W.cell? (a.add (i * 5 + j)) = some u) := by
      intro i
      by_cases hlt : i < len
      · obtain ⟨cs', hc, ht⟩ := hi i (by omega)
        rw [hC] at hc
        obtain ⟨_, hcl, hat⟩ := World.cells?_some hc
        obtain ⟨p, rfl⟩ := tdT ht hcl
        refine ⟨p, fun _ j u hu => ?_⟩
        have hj : j < (TdC p).length := (List.getElem?_eq_some_iff.1 hu).1
        have := hat j (by rw [hcl] at hj; exact hj)
        rw [Go.Deep.add_add] at this
        rw [this]
        first | exact hu | (rw [← hu]; simp [List.getElem?_eq_getElem hj])
      · exact ⟨⟨0, [], 0, 0, 0⟩, fun h => absurd h hlt⟩
    obtain ⟨f, hF⟩ := Classical.axiomOfChoice each
    have hk2 : ∀ x : Td, (TdC x).length = 5 := fun _ => rfl
    refine ⟨(List.range len).map f, by simp, ⟨?_, (fun h => by cases h), fun b hb => ?_⟩, by omega, by omega, fun h => (by cases h)⟩
    · rw [List.length_flatMap, List.map_map]
      have : ((fun a => (TdC a).length) ∘ f) = fun _ => 5 := funext fun x => hk2 _
      rw [this, List.map_const', List.sum_replicate_nat, List.length_range]
    · cases hb
      exact cells_flat (k := 5) (g := TdC) hk2 len fun i h => hF i h
end
end Go.Proofs.YtkihoekldklkhaaDoor
