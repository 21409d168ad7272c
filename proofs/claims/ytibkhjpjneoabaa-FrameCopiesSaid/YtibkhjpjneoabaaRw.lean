/- Slices of byte slices, as an argument: the packets of PSS. -/
import Derived.Test.YtibkhjpjneoabaaFc
import Derived.Test.YtibkhjpjneoabaaFr
import Derived.Deep.Matrix
namespace Go.Proofs.Ytibkhjpjneoabaa
open Go.RowKit

theorem RB.of_bs {w : World} {B n c : Nat} {A : Option Addr} {l : List UInt8} (hl : l.length = n) (hmc : n ≤ c) (hcm : c ≤ maxLen) (hz : A = none → c = 0) (hb : BS w B A l) : RB w A n c l := by
  refine ⟨hl, ⟨by simpa using hl, fun e => ?_, fun b e j u hj => ?_⟩, hmc, hcm, hz⟩
  · have := hz e
    have h0 : n = 0 := by omega
    exact ⟨h0, by have h9 : l = [] := List.eq_nil_of_length_eq_zero (by omega); first | rw [h9]; rfl | omega⟩
  · obtain ⟨hj1, hj2⟩ := List.getElem?_eq_some_iff.1 hj
    have hj3 : j < l.length := by simpa using hj1
    obtain ⟨b2, o2, e2, -, hc⟩ := hb (by omega)
    rw [e2] at e
    cases e
    rw [Addr.add_lit, hc j hj3, ← hj2]
    simp [u8]
theorem pss_of_rows {w : World} {x : Addr} {len cap : Nat} {A : Nat → Option Addr} {L C : Nat → Nat} {Z : Nat → List Int} (hl : len ≤ cap) (hm : cap ≤ maxLen)
    (hr : ∀ r, r < cap → w.cell? (x.add r) = some (.slice (A r) (L r) (C r)) ∧ L r ≤ C r ∧ C r ≤ maxLen ∧ (Z r).length = C r ∧ (∀ n ∈ Z r, (Lit.int .u8 n).wf = true) ∧ (A r = none → C r = 0) ∧
        ∀ a', A r = some a' → 0 ≤ a'.block ∧ ∀ c, c < C r → w.cell? (a'.add c) = some (.int .u8 ((Z r).getD c 0))) :
    ∃ f : Nat → Pk, PSS w (some x) len f := by
  have hrow : ∀ r, r < cap → ∃ l : List UInt8, RB w (A r) (L r) (C r) l := fun r hlt => by
    obtain ⟨_, h2, h3, h4, h5, h6, h7⟩ := hr r hlt
    cases hA : A r with
    | none =>
      have h8 := h6 hA
      have h9 : L r = 0 := by omega
      rw [h8, h9]
      exact ⟨[], RB.nil w⟩
    | some a' =>
      obtain ⟨l, e1, _, _, e2⟩ := bs_of_row h2 h3 h4 (fun i hi => (h7 a' hA).2 i (by omega)) h5
      exact ⟨l, RB.of_bs e1 h2 h3 (fun e => by cases e) e2⟩
  refine ⟨fun r => if h : r < cap then ⟨A r, L r, C r, (hrow r h).choose⟩ else ⟨none, 0, 0, []⟩, Nat.le_trans hl hm, fun i hi => ?_⟩
  have hic : i < cap := by omega
  obtain ⟨h0, _⟩ := hr i hic
  obtain ⟨b, o, spot⟩ := x
  have hspot : spot = none := by
    have h9 := (hr 0 (by omega)).1
    simpa [Addr.add] using World.cell?_spot h9
  subst hspot
  rw [Addr.add_lit] at h0
  refine ⟨b, o, rfl, World.block_lt_of_cell? _ _ h0, ?_, ?_⟩
  · simp only [hic, dif_pos]; exact h0
  · simp only [hic, dif_pos]; exact (hrow i hic).choose_spec
end Go.Proofs.Ytibkhjpjneoabaa
