/- A byte row of the call's own whose bytes are written to. Over any program. -/
import Derived.Test.YthgbnpafhkhjpaaSz
namespace Go.Proofs.Ythgbnpafhkhjpaa
open Go.RowKit

/-- Some bytes. -/
def ByteRow (w : World) (B : Nat) (v : Value) (n : Nat) : Prop := ∃ L : List UInt8, L.length = n ∧ w.ownsRow B 5 1 v n (L.map u8)
theorem ByteRow.cell {w : World} {B n k : Nat} {v : Value} (h : ByteRow w B v n) (hk : k < n) : ∃ g cap x, v = .slice (some ⟨g, 0, none⟩) n cap ∧ w.cell? ⟨g, k, none⟩ = some (.int .u8 x) ∧ 0 ≤ x ∧ x < 256 ∧ w.frozen? ⟨g, k, none⟩ = false := by
  obtain ⟨L, hl, ho⟩ := h
  obtain ⟨g, cap, rfl, -, -, -, -, hcs⟩ := own_holds ho (by omega)
  have hkl : k < L.length := by omega
  have hc := hcs k (u8 L[k]) (by rw [List.getElem?_map, List.getElem?_eq_getElem hkl]; rfl)
  rw [Addr.add_lit, Nat.zero_add] at hc
  have := L[k].toNat_lt
  exact ⟨g, cap, _, rfl, hc, by omega, by omega, own_frozen ho⟩
theorem ByteRow.store {w : World} {B n k g cap : Nat} {z : Int} (h : ByteRow w B (.slice (some ⟨g, 0, none⟩) n cap) n) (h0 : 0 ≤ z) (h1 : z < 256) : ByteRow (w.setCell ⟨g, k, none⟩ (.int .u8 z)) B (.slice (some ⟨g, 0, none⟩) n cap) n := by
  obtain ⟨L, hl, ho⟩ := h
  refine ⟨L.set k (UInt8.ofNat z.toNat), by simpa using hl, ?_⟩
  have := own_store ho (k := k) (.int .u8 z)
  rw [List.map_set]
  have e : u8 (UInt8.ofNat z.toNat) = .int .u8 z := by
    unfold u8
    rw [UInt8.toNat_ofNat', Nat.mod_eq_of_lt (by omega), Int.toNat_of_nonneg h0]
  rw [e]
  exact this
theorem ByteRow.drew {w : World} {B n : Nat} {v : Value} (h : ByteRow w B v n) : ByteRow w.drew B v n := by
  obtain ⟨L, hl, ho⟩ := h
  exact ⟨L, hl, own_drew ho⟩
theorem ByteRow.of {w : World} {B n : Nat} {v : Value} {L : List UInt8} (h : w.ownsRow B 5 1 v n (L.map u8)) : ByteRow w B v n := ⟨L, by have := h.1; simpa using this, h⟩
theorem ByteRow.form {w : World} {B n : Nat} {v : Value} (h : ByteRow w B v n) : ∃ A cap, v = .slice A n cap := by
  obtain ⟨L, hl, ho⟩ := h
  obtain ⟨A, cap, e, -⟩ := own_form ho
  exact ⟨A, cap, e⟩
/-- What was done to the row alone is below the row's base. -/
theorem ByteRow.below {w w' : World} {B n : Nat} {v : Value} (h : ByteRow w B v n) (hB : B ≤ w.heap.size) (hg : w.grownBy w' v.ownBlock) : Below B w w' := by
  obtain ⟨L, hl, ho⟩ := h
  exact below_own ((Below.refl w.heap.size w).mono hB) hB ho hg
end Go.Proofs.Ythgbnpafhkhjpaa
