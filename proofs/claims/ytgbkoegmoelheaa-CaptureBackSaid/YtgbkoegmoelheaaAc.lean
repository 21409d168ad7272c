/- A list of packets and a list of calls, opened. -/
import Derived.Test.YtgbkoegmoelheaaRows
import Derived.WalkKit
import Derived.ProofKit
import Derived.OpenShut
import Derived.ShutString
import Derived.ChangeOld
import Derived.Below
import Derived.SizedLaws
import Derived.Lib.SmallJoins
import Derived.Deep.Slices
import Derived.Deep.Fields
import Derived.Test.YtgbkoegmoelheaaFr
import Derived.Test.YtgbkoegmoelheaaDa
namespace Go.Proofs.Ytgbkoegmoelheaa
open Go.ChangeShapes Go.WideShapes Go.ChangeAt Go.RowKit Go.Joins
set_option linter.unusedVariables false

theorem holds_nil' (w : World) : Holds w none 0 (([] : List UInt8).map u8) := ⟨rfl, fun _ => ⟨rfl, rfl⟩, fun b hb => by cases hb⟩
section
variable {H : Type} {enc : TypeId × Value → H} {W : World}
theorem bytes_of {n : Nat} {v : Value} {y : DataW H × List MemPlace} (hf : DataW.trod enc Try.prog W 0 (fun _ => true) true n 23 [v] = some y) : ∃ (A : Option Addr) (k c : Nat) (l : List UInt8), v = .slice A k c ∧ RB W A k c l := by
  rcases open_ints Try.underlying23 Try.underlying5 (by kernel_rfl) hf with ⟨hcs, _⟩ | ⟨x, l, c, zs, hcs, _, hl, hm, hz, _, hcell, hwz⟩
  · simp at hcs
    exact ⟨none, 0, 0, [], hcs, RB.nil _⟩
  · simp at hcs
    obtain ⟨L, h1, h2, h3, h4⟩ := bs_of_row hl hm (by simpa using hz) hcell hwz
    exact ⟨_, _, _, L, hcs, h1, h4.holds h1, hl, hm, fun h => by cases h⟩
theorem pack_of {n1 n2 n3 : Nat} {v0 v1 v2 : Value} {y0 y1 y2 : DataW H × List MemPlace} (t0 : DataW.trod enc Try.prog W 0 (fun _ => true) true n1 3 [v0] = some y0) (t1 : DataW.trod enc Try.prog W 0 (fun _ => true) true n2 3 [v1] = some y1)
    (t2 : DataW.trod enc Try.prog W 0 (fun _ => true) true n3 23 [v2] = some y2) :
    ∃ p : Pd, v0 = .int .i64 p.t ∧ v1 = .int .i64 p.f ∧ v2 = .slice p.A p.n p.c ∧ PdR W p := by
  obtain ⟨a, e0, _, w0⟩ := DataW.trod_int Try.underlying3 t0
  obtain ⟨b, e1, _, w1⟩ := DataW.trod_int Try.underlying3 t1
  obtain ⟨A1, n1, c1, l1, e2, h1⟩ := bytes_of t2
  simp at e0 e1
  have b0 := bounds_i64 w0
  have b1 := bounds_i64 w1
  exact ⟨⟨a, b, A1, n1, c1, l1⟩, e0, e1, e2, b0.1, by have := b0.2; show a < _; omega, b1.1, by have := b1.2; show b < _; omega, h1⟩
set_option maxRecDepth 100000 in
theorem packT {n : Nat} {cs : List Value} {y : DataW H × List MemPlace} (ht : DataW.trod enc Try.prog W 0 (fun _ => true) true n 31 cs = some y) (hl : cs.length = 3) : ∃ p : Pd, cs = p.cells ∧ PdR W p := by
  obtain ⟨ys, n', _, _, _, hyl, hg⟩ := DataW.trod_struct Try.underlying31 ht
  match cs, hl with
  | [v0, v1, v2], _ =>
    match ys, hyl with
    | [y0, y1, y2], _ =>
      have t0 := hg 0 _ rfl
      have t1 := hg 1 _ rfl
      have t2 := hg 2 _ rfl
      have c3 : Try.prog.cellsOf 3 = 1 := by kernel_rfl
      have c23 : Try.prog.cellsOf 23 = 1 := by kernel_rfl
      simp [c3, c23] at t0 t1 t2
      obtain ⟨p, e0, e1, e2, hp⟩ := pack_of t0 t1 t2
      subst e0 e1 e2
      exact ⟨p, rfl, hp⟩
set_option maxRecDepth 100000 in
theorem callT {n : Nat} {cs : List Value} {y : DataW H × List MemPlace} (ht : DataW.trod enc Try.prog W 0 (fun _ => true) true n 53 cs = some y) (hl : cs.length = 4) : ∃ a : Ac, cs = a.cells ∧ PdR W a.p := by
  obtain ⟨ys, n', _, _, _, hyl, hg⟩ := DataW.trod_struct Try.underlying53 ht
  match cs, hl with
  | [v0, v1, v2, v3], _ =>
    match ys, hyl with
    | [y0, y1], _ =>
      have t0 := hg 0 _ rfl
      have t1 := hg 1 _ rfl
      have c4 : Try.prog.cellsOf 4 = 1 := by kernel_rfl
      have c31 : Try.prog.cellsOf 31 = 3 := by kernel_rfl
      simp [c4, c31] at t0 t1
      obtain ⟨b, e0, _⟩ := DataW.trod_bool Try.underlying4 t0
      simp at e0
      obtain ⟨p, e1, hp⟩ := packT t1 rfl
      injection e1 with q1 q2
      injection q2 with q2 q3
      injection q3 with q3 q4
      subst e0 q1 q2 q3
      exact ⟨⟨b, p⟩, rfl, hp⟩
/-- Rows of cells that lie one behind the other. -/
theorem cells_flat {α : Type} {w : World} {a : Addr} {k : Nat} {f : Nat → α} {g : α → List Value} (hk : ∀ x, (g x).length = k) : ∀ (n : Nat), (∀ i, i < n → ∀ j u, (g (f i))[j]? = some u → w.cell? (a.add (i * k + j)) = some u) → ∀ j u, (((List.range n).map f).flatMap g)[j]? = some u → w.cell? (a.add j) = some u
  | 0, _, j, u, h => by simp at h
  | n + 1, hi, j, u, h => by
    rw [List.range_succ, List.map_append, List.flatMap_append] at h
    have hl : (((List.range n).map f).flatMap g).length = n * k := by
      rw [List.length_flatMap, List.map_map]
      have : ((fun a => (g a).length) ∘ f) = fun _ => k := funext fun x => hk _
      rw [this, List.map_const', List.sum_replicate_nat, List.length_range]
    by_cases hj : j < n * k
    · rw [List.getElem?_append_left (by rw [hl]; exact hj)] at h
      exact cells_flat hk n (fun i h' => hi i (by omega)) j u h
    · rw [List.getElem?_append_right (by rw [hl]; omega), hl] at h
      simp at h
      have := hi n (by omega) (j - n * k) u h
      rwa [show n * k + (j - n * k) = j by omega] at this

set_option maxRecDepth 100000 in
theorem open_packs {fuel : Nat} {A : Option Addr} {len cap : Nat} {x : DataW H × List MemPlace} (hf : DataW.trod enc Try.prog W 0 (fun _ => true) true fuel 22 (Value.cells (.slice A len cap)).toList = some x) : ∃ ps : List Pd, PL W A len cap ps ∧ (cap = 0 ∨ ∃ e s, x.1 = .slice e s ∧ e.length + s.length = cap) := by
  rcases Go.Deep.open_slice Try.underlying22 hf with ⟨hcs, _⟩ | ⟨a, l, c, m, n, D, Pl, hcs, _, hl, hm, hmm, hx, hi⟩
  · simp [Value.cells] at hcs
    obtain ⟨rfl, rfl, rfl⟩ := hcs
    exact ⟨[], PL.nil _, .inl rfl⟩
  · simp [Value.cells] at hcs
    obtain ⟨rfl, rfl, rfl⟩ := hcs
    have hC : Try.prog.cellsOf 31 = 3 := by kernel_rfl
    have hm2 : m = cap := by simpa using hmm
    have each : ∀ i, ∃ p : Pd, i < len → (∀ j u, p.cells[j]? = some u → W.cell? (a.add (i * 3 + j)) = some u) ∧ PdR W p := by
      intro i
      by_cases hlt : i < len
      · obtain ⟨cs', hc, ht⟩ := hi i (by omega)
        rw [hC] at hc
        obtain ⟨_, hcl, hat⟩ := World.cells?_some hc
        obtain ⟨p, rfl, hp⟩ := packT ht hcl
        refine ⟨p, fun _ => ⟨fun j u hu => ?_, hp⟩⟩
        have hj : j < p.cells.length := (List.getElem?_eq_some_iff.1 hu).1
        have := hat j (by rw [hcl] at hj; exact hj)
        rw [Go.Deep.add_add] at this
        rw [this]
        first | exact hu | (rw [← hu]; simp [List.getElem?_eq_getElem hj])
      · exact ⟨⟨0, 0, none, 0, 0, []⟩, fun h => absurd h hlt⟩
    obtain ⟨f, hF⟩ := Classical.axiomOfChoice each
    refine ⟨(List.range len).map f, ⟨by simp, ⟨by rw [pd_len]; simp, (fun h => by cases h), fun b hb => ?_⟩, by omega, by omega, fun h => (by cases h), fun p hp => ?_⟩, .inr ⟨_, _, by rw [hx], by simp [hm2]; omega⟩⟩
    · cases hb
      exact cells_flat (k := 3) (g := Pd.cells) (fun _ => rfl) len fun i h => (hF i h).1
    · obtain ⟨i, h1, rfl⟩ := List.mem_map.1 hp
      exact (hF i (List.mem_range.1 h1)).2
theorem ac_len (l : List Ac) : (l.flatMap Ac.cells).length = l.length * 4 := by
  induction l with
  | nil => rfl
  | cons a l ih => rw [List.flatMap_cons, List.length_append, ih, List.length_cons, show a.cells.length = 4 from rfl]; omega
set_option maxRecDepth 100000 in
theorem open_calls {fuel : Nat} {A : Option Addr} {len cap : Nat} {x : DataW H × List MemPlace} (hf : DataW.trod enc Try.prog W 0 (fun _ => true) true fuel 41 (Value.cells (.slice A len cap)).toList = some x) : ∃ ps : List Ac, AL W A len cap ps ∧ len ≤ cap ∧ (cap = 0 ∨ ∃ e s, x.1 = .slice e s ∧ e.length + s.length = cap) := by
  rcases Go.Deep.open_slice Try.underlying41 hf with ⟨hcs, _⟩ | ⟨a, l, c, m, n, D, Pl, hcs, _, hl, hm, hmm, hx, hi⟩
  · simp [Value.cells] at hcs
    obtain ⟨rfl, rfl, rfl⟩ := hcs
    exact ⟨[], ⟨rfl, ⟨rfl, fun _ => rfl, fun b hb => by cases hb⟩, fun p hp => by cases hp⟩, Nat.le_refl _, .inl rfl⟩
  · simp [Value.cells] at hcs
    obtain ⟨rfl, rfl, rfl⟩ := hcs
    have hC : Try.prog.cellsOf 53 = 4 := by kernel_rfl
    have hm2 : m = cap := by simpa using hmm
    have each : ∀ i, ∃ p : Ac, i < len → (∀ j u, p.cells[j]? = some u → W.cell? (a.add (i * 4 + j)) = some u) ∧ PdR W p.p := by
      intro i
      by_cases hlt : i < len
      · obtain ⟨cs', hc, ht⟩ := hi i (by omega)
        rw [hC] at hc
        obtain ⟨_, hcl, hat⟩ := World.cells?_some hc
        obtain ⟨p, rfl, hp⟩ := callT ht hcl
        refine ⟨p, fun _ => ⟨fun j u hu => ?_, hp⟩⟩
        have hj : j < p.cells.length := (List.getElem?_eq_some_iff.1 hu).1
        have := hat j (by rw [hcl] at hj; exact hj)
        rw [Go.Deep.add_add] at this
        rw [this]
        first | exact hu | (rw [← hu]; simp [List.getElem?_eq_getElem hj])
      · exact ⟨⟨false, ⟨0, 0, none, 0, 0, []⟩⟩, fun h => absurd h hlt⟩
    obtain ⟨f, hF⟩ := Classical.axiomOfChoice each
    refine ⟨(List.range len).map f, ⟨by simp, ⟨by rw [ac_len]; simp, (fun h => by cases h), fun b hb => ?_⟩, fun p hp => ?_⟩, by omega, .inr ⟨_, _, by rw [hx], by simp [hm2]; omega⟩⟩
    · cases hb
      exact cells_flat (k := 4) (g := Ac.cells) (fun _ => rfl) len fun i h => (hF i h).1
    · obtain ⟨i, h1, rfl⟩ := List.mem_map.1 hp
      exact (hF i (List.mem_range.1 h1)).2
end
end Go.Proofs.Ytgbkoegmoelheaa
