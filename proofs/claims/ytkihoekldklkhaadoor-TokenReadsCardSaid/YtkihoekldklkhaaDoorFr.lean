/- From an argument's reading to the words for byte slices. Over any program. -/
import Derived.WalkKit
import Derived.ProofKit
import Derived.OpenShut
import Derived.Test.YtkihoekldklkhaaDoorBase
namespace Go.Proofs.YtkihoekldklkhaaDoor
open Go.RowKit

theorem byte_wf {x : Int} (h : (Lit.int .u8 x).wf = true) : 0 ≤ x ∧ x < 256 := by
  have := bounds_u8 h
  omega

theorem bs_of_row {w : World} {x : Addr} {len cap : Nat} {zs : List Int} (hl : len ≤ cap) (hm : cap ≤ maxLen) (hz : zs.length = cap) (hcell : ∀ i, i < zs.length → w.cell? (x.add i) = some (.int .u8 (zs.getD i 0))) (hwz : ∀ n ∈ zs, (Lit.int .u8 n).wf = true) :
    ∃ l : List UInt8, l.length = len ∧ len ≤ cap ∧ cap ≤ maxLen ∧ BS w w.heap.size (some x) l := by
  refine ⟨(zs.take len).map fun n => UInt8.ofNat n.toNat, by simp; omega, hl, hm, fun h0 => ?_⟩
  have h0' : 0 < zs.length := by simp at h0; omega
  obtain ⟨b, off, spot⟩ := x
  have hc := hcell 0 h0'
  have hspot : spot = none := by simpa [Addr.add] using World.cell?_spot hc
  subst hspot
  refine ⟨b, off, rfl, by have := World.block_lt_of_cell? _ _ hc; simpa [Addr.add] using this, fun i hi => ?_⟩
  have hi2 : i < zs.length := by simp at hi; omega
  have h1 := hcell i hi2
  rw [Addr.add_lit] at h1
  rw [h1]
  have hb := byte_wf (hwz zs[i] (List.getElem_mem hi2))
  simp only [List.getD, List.getElem?_eq_getElem hi2, Option.getD_some, List.getElem_map, List.getElem_take]
  congr 2
  have : zs[i].toNat < 256 := by omega
  simp [Nat.mod_eq_of_lt this]
  omega
end Go.Proofs.YtkihoekldklkhaaDoor
