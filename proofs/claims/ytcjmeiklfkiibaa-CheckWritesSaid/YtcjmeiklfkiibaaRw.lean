/- Slices of byte slices. No program. -/
import Derived.Test.YtcjmeiklfkiibaaFr
import Derived.Deep.Matrix
namespace Go.Proofs.Ytcjmeiklfkiibaa
open Go.RowKit

/-- A byte slice: its address, length, capacity and bytes. -/
structure Sl where
  A : Option Addr
  n : Nat
  c : Nat
  l : List UInt8
/-- The slice at A reads as the byte slices L, and lies below block B. -/
def BSS (w : World) (B : Nat) (A : Option Addr) (L : List Sl) : Prop :=
  0 < L.length → ∃ b o, A = some ⟨b, o, none⟩ ∧ b < B ∧ ∀ i (h : i < L.length), w.cell? ⟨b, o + i, none⟩ = some (.slice (L[i]).A (L[i]).n (L[i]).c) ∧ (L[i]).l.length = (L[i]).n ∧ (L[i]).n ≤ (L[i]).c ∧ (L[i]).c ≤ maxLen ∧ BS w B (L[i]).A (L[i]).l
theorem BSS.nil_ {w : World} {B : Nat} {A : Option Addr} : BSS w B A [] := fun h => absurd h (by simp)
theorem BSS.below {w w' : World} {B : Nat} {A : Option Addr} {L : List Sl} (h : BSS w B A L) (hb : Below B w w') : BSS w' B A L := fun hn => by
  obtain ⟨b, o, e, hlt, hc⟩ := h hn
  refine ⟨b, o, e, hlt, fun i hi => ?_⟩
  obtain ⟨h1, h2, h3, h4, h5⟩ := hc i hi
  exact ⟨(hb.cell hlt).trans h1, h2, h3, h4, h5.below hb⟩

theorem bss_of_rows {w : World} {x : Addr} {len cap : Nat} {A : Nat → Option Addr} {L C : Nat → Nat} {Z : Nat → List Int} (hl : len ≤ cap) (hm : cap ≤ maxLen)
    (hr : ∀ r, r < cap → w.cell? (x.add r) = some (.slice (A r) (L r) (C r)) ∧ L r ≤ C r ∧ C r ≤ maxLen ∧ (Z r).length = C r ∧ (∀ n ∈ Z r, (Lit.int .u8 n).wf = true) ∧ (A r = none → C r = 0) ∧
        ∀ a', A r = some a' → 0 ≤ a'.block ∧ ∀ c, c < C r → w.cell? (a'.add c) = some (.int .u8 ((Z r).getD c 0))) :
    ∃ R : List Sl, R.length = len ∧ len ≤ cap ∧ cap ≤ maxLen ∧ BSS w w.heap.size (some x) R := by
  have hrow : ∀ r, r < cap → ∃ l : List UInt8, l.length = L r ∧ BS w w.heap.size (A r) l := fun r hlt => by
    obtain ⟨_, h2, h3, h4, h5, h6, h7⟩ := hr r hlt
    cases hA : A r with
    | none => exact ⟨[], by have := h6 hA; simp; omega, BS.nil_⟩
    | some a' =>
      obtain ⟨l, e1, _, _, e2⟩ := bs_of_row h2 h3 h4 (fun i hi => (h7 a' hA).2 i (by omega)) h5
      exact ⟨l, e1, e2⟩
  refine ⟨(List.range len).map fun r => if h : r < cap then ⟨A r, L r, C r, (hrow r h).choose⟩ else ⟨none, 0, 0, []⟩, by simp, hl, hm, fun hn => ?_⟩
  have hn' : 0 < len := by simpa using hn
  obtain ⟨h0, _⟩ := hr 0 (by omega)
  obtain ⟨b, o, spot⟩ := x
  have hspot : spot = none := by simpa [Addr.add] using World.cell?_spot h0
  subst hspot
  refine ⟨b, o, rfl, by have := World.block_lt_of_cell? _ _ h0; simpa [Addr.add] using this, fun i hi => ?_⟩
  have hi' : i < len := by simpa using hi
  have hic : i < cap := by omega
  obtain ⟨h1, h2, h3, _⟩ := hr i hic
  have hs := (hrow i hic).choose_spec
  rw [Addr.add_lit] at h1
  simp only [List.getElem_map, List.getElem_range, hic, dif_pos]
  exact ⟨h1, hs.1, h2, h3, hs.2⟩
end Go.Proofs.Ytcjmeiklfkiibaa
