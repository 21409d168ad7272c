/- The law's list of calls, opened. -/
import Derived.Test.YthkpmbgclllnjaaRows
import Derived.WalkKit
import Derived.ProofKit
import Derived.OpenShut
import Derived.ShutString
import Derived.ChangeOld
import Derived.Below
import Derived.Lib.SmallJoins
import Derived.Deep.Slices
import Derived.Deep.Fields
import Derived.Test.YthkpmbgclllnjaaFr
import Derived.Test.YthkpmbgclllnjaaIs
namespace Go.Proofs.Ythkpmbgclllnjaa
open Go.ChangeShapes Go.WideShapes Go.ChangeAt Go.RowKit Go.Joins
set_option linter.unusedVariables false

/-- A call of the law's list, opened. -/
structure ActV where
  k : Int
  A : Option Addr
  m : Nat
  c : Nat
  l : List UInt8
  n : Int
  x : UInt8
def ActC (w : World) (b o : Nat) (X : ActV) : Prop := w.cell? ⟨b, o, none⟩ = some (.int .u8 X.k) ∧ w.cell? ⟨b, o + 1, none⟩ = some (.slice X.A X.m X.c) ∧ w.cell? ⟨b, o + 2, none⟩ = some (.int .i64 X.n) ∧ w.cell? ⟨b, o + 3, none⟩ = some (.int .u8 (X.x.toNat : Int))
theorem ActC.keepc {w w' : World} {b o : Nat} {x : ActV} {B : Nat} (h : ActC w b o x) (hb : Below B w w') (hB : b < B) : ActC w' b o x := by
  obtain ⟨h1, h2, h3, h4⟩ := h
  exact ⟨(hb.cell (p := ⟨b, _, none⟩) hB).trans h1, (hb.cell (p := ⟨b, _, none⟩) hB).trans h2, (hb.cell (p := ⟨b, _, none⟩) hB).trans h3, (hb.cell (p := ⟨b, _, none⟩) hB).trans h4⟩
/-- What is known of a call's parts. -/
structure ActG (w : World) (X : ActV) : Prop where
  k0 : 0 ≤ X.k
  k1 : X.k < 256
  n : (Lit.int .i64 X.n).wf = true
  rb : RB w X.A X.m X.c X.l
theorem ActG.below {w w' : World} {X : ActV} (h : ActG w X) (hb : Below w.heap.size w w') : ActG w' X := ⟨h.k0, h.k1, h.n, h.rb.below hb⟩
def ActS (w : World) (A : Option Addr) (len : Nat) (f : Nat → ActV) : Prop := len ≤ maxLen ∧ ∀ i, i < len → ∃ b o, A = some ⟨b, o, none⟩ ∧ b < w.heap.size ∧ ActC w b (o + i * 4) (f i) ∧ ActG w (f i)
/-- The call as the specification has it. -/
def ActV.spec (X : ActV) : SAct := ⟨(X.k % 7).toNat, X.l, X.n, X.x⟩
theorem holds_nil' (w : World) : Holds w none 0 (([] : List UInt8).map u8) := ⟨rfl, fun _ => ⟨rfl, rfl⟩, fun b hb => by cases hb⟩
section
variable {H : Type} {enc : TypeId × Value → H} {W : World}
theorem bytes_of {n : Nat} {v : Value} {y : DataW H × List MemPlace} (hf : DataW.trod enc Try.prog W 0 (fun _ => true) true n 22 [v] = some y) : ∃ (A : Option Addr) (k c : Nat) (l : List UInt8), v = .slice A k c ∧ l.length = k ∧ Holds W A k (l.map u8) ∧ (A = none → c = 0) ∧ k ≤ c ∧ c ≤ maxLen ∧ ∀ b, A = some b → 0 < k → b.block < W.heap.size := by
  rcases open_ints Try.underlying22 Try.underlying5 (by kernel_rfl) hf with ⟨hcs, _⟩ | ⟨x, l, c, zs, hcs, _, hl, hm, hz, _, hcell, hwz⟩
  · simp at hcs
    exact ⟨none, 0, 0, [], hcs, rfl, holds_nil' _, fun _ => rfl, Nat.le_refl _, by omega, fun b hb => by cases hb⟩
  · simp at hcs
    obtain ⟨L, h1, h2, h3, h4⟩ := bs_of_row hl hm (by simpa using hz) hcell hwz
    refine ⟨_, _, _, L, hcs, h1, h4.holds h1, (fun h => by cases h), hl, hm, fun b hb h0 => ?_⟩
    obtain ⟨b', o, e, hlt, _⟩ := h4 (by omega)
    rw [e] at hb; cases hb
    exact hlt

theorem act_of {n1 n2 n3 n4 : Nat} {v0 v1 v2 v3 : Value} {y0 y1 y2 y3 : DataW H × List MemPlace} (t0 : DataW.trod enc Try.prog W 0 (fun _ => true) true n1 5 [v0] = some y0) (t1 : DataW.trod enc Try.prog W 0 (fun _ => true) true n2 22 [v1] = some y1)
    (t2 : DataW.trod enc Try.prog W 0 (fun _ => true) true n3 3 [v2] = some y2) (t3 : DataW.trod enc Try.prog W 0 (fun _ => true) true n4 5 [v3] = some y3) :
    ∃ X : ActV, v0 = .int .u8 X.k ∧ v1 = .slice X.A X.m X.c ∧ v2 = .int .i64 X.n ∧ v3 = .int .u8 (X.x.toNat : Int) ∧ ActG W X := by
  obtain ⟨k, e0, _, w0⟩ := DataW.trod_int Try.underlying5 t0
  obtain ⟨A1, n1, c1, l1, e1, h1, h2, h3, h4, h5, h6⟩ := bytes_of t1
  obtain ⟨b, e2, _, w2⟩ := DataW.trod_int Try.underlying3 t2
  obtain ⟨y, e3, _, w3⟩ := DataW.trod_int Try.underlying5 t3
  simp at e0 e2 e3
  have hk := byte_wf w0
  have hy := byte_wf w3
  have hyx : (((UInt8.ofNat y.toNat).toNat : Nat) : Int) = y := by rw [UInt8.toNat_ofNat', Nat.mod_eq_of_lt (by omega), Int.toNat_of_nonneg hy.1]
  exact ⟨⟨k, A1, n1, c1, l1, b, UInt8.ofNat y.toNat⟩, e0, e1, e2, by rw [e3, hyx], hk.1, hk.2, w2, h1, h2, h4, h5, h3⟩

set_option maxRecDepth 100000 in
theorem open_acts {fuel : Nat} {A : Option Addr} {len cap : Nat} {x : DataW H × List MemPlace} (hf : DataW.trod enc Try.prog W 0 (fun _ => true) true fuel 34 (Value.cells (.slice A len cap)).toList = some x) : ∃ f : Nat → ActV, ActS W A len f := by
  rcases Go.Deep.open_slice Try.underlying34 hf with ⟨hcs, _⟩ | ⟨a, l, c, m, n, D, Pl, hcs, _, hl, hm, hmm, _, hi⟩
  · simp [Value.cells] at hcs
    obtain ⟨rfl, rfl, rfl⟩ := hcs
    exact ⟨fun _ => ⟨0, none, 0, 0, [], 0, 0⟩, by unfold maxLen; omega, fun i hi => absurd hi (Nat.not_lt_zero i)⟩
  · simp [Value.cells] at hcs
    obtain ⟨rfl, rfl, rfl⟩ := hcs
    have hC : Try.prog.cellsOf 53 = 4 := by kernel_rfl
    have hm2 : m = cap := by simpa using hmm
    have each : ∀ i, i < len → ∃ X : ActV, W.cell? (a.add (i * 4)) = some (.int .u8 X.k) ∧ W.cell? (a.add (i * 4 + 1)) = some (.slice X.A X.m X.c) ∧ W.cell? (a.add (i * 4 + 2)) = some (.int .i64 X.n) ∧ W.cell? (a.add (i * 4 + 3)) = some (.int .u8 (X.x.toNat : Int)) ∧ ActG W X := by
      intro i hlt
      obtain ⟨cs', hc, ht⟩ := hi i (by omega)
      rw [hC] at hc
      obtain ⟨_, hcl, hat⟩ := World.cells?_some hc
      obtain ⟨ys, n', _, _, _, hyl, hg⟩ := DataW.trod_struct Try.underlying53 ht
      match cs', hcl with
      | [v0, v1, v2, v3], _ =>
        match ys, hyl with
        | [y0, y1, y2, y3], _ =>
          have t0 := hg 0 _ rfl
          have t1 := hg 1 _ rfl
          have t2 := hg 2 _ rfl
          have t3 := hg 3 _ rfl
          have c3 : Try.prog.cellsOf 3 = 1 := by kernel_rfl
          have c5 : Try.prog.cellsOf 5 = 1 := by kernel_rfl
          have c22 : Try.prog.cellsOf 22 = 1 := by kernel_rfl
          simp [c3, c5, c22] at t0 t1 t2 t3
          have a0 := hat 0 (by omega)
          have a1 := hat 1 (by omega)
          have a2 := hat 2 (by omega)
          have a3 := hat 3 (by omega)
          rw [Go.Deep.add_add] at a0 a1 a2 a3
          simp at a0 a1 a2 a3
          obtain ⟨X, e0, e1, e2, e3, hX⟩ := act_of t0 t1 t2 t3
          subst e0 e1 e2 e3
          exact ⟨X, a0, a1, a2, a3, hX⟩
    have each' : ∀ i, ∃ X : ActV, i < len → W.cell? (a.add (i * 4)) = some (.int .u8 X.k) ∧ W.cell? (a.add (i * 4 + 1)) = some (.slice X.A X.m X.c) ∧ W.cell? (a.add (i * 4 + 2)) = some (.int .i64 X.n) ∧ W.cell? (a.add (i * 4 + 3)) = some (.int .u8 (X.x.toNat : Int)) ∧ ActG W X := by
      intro i
      by_cases h : i < len
      · obtain ⟨X, hX⟩ := each i h
        exact ⟨X, fun _ => hX⟩
      · exact ⟨⟨0, none, 0, 0, [], 0, 0⟩, fun h' => absurd h' h⟩
    obtain ⟨f, hF⟩ := Classical.axiomOfChoice each'
    refine ⟨f, by omega, fun i hlt => ?_⟩
    have hsp := hF 0 (by omega)
    have h := hF i hlt
    have hs : a.spot = none := by have := World.cell?_spot hsp.1; simpa [Addr.add] using this
    obtain ⟨b, o, spot⟩ := a
    simp at hs
    subst hs
    obtain ⟨h1, h2, h3, h4, h5⟩ := h
    rw [Addr.add_lit] at h1 h2 h3 h4
    exact ⟨b, o, rfl, World.block_lt_of_cell? _ _ h1, ⟨h1, h2, h3, h4⟩, h5⟩
end
end Go.Proofs.Ythkpmbgclllnjaa
