/- The contract of (*bitString).add, whole. -/
import Derived.Test.YthgbnpafhkhjpaaAd2
namespace Go.Proofs.Ythgbnpafhkhjpaa
open Go.RowKit

theorem add_any (B g : Nat) (t : TypeId) (v : Value) (m : Nat) (rest : List Value) (l : List UInt8) (b : Bool) (w : World) (hg : Blk w g t ⟨v :: .int .i64 m :: rest⟩) (ho : w.ownsRow B 5 1 v ((m + 7) / 8) (l.map u8)) (ht : 5 ≠ t) (hm : m ≤ 8388608) (hB : B ≤ w.heap.size) :
    Calls Try.prog 63 #[.pointer (some ⟨g, 0, none⟩), .bool b] w fun e w' => ∃ r v', e = .returned r ∧ Blk w' g t ⟨v' :: .int .i64 (m + 1 : Nat) :: rest⟩ ∧ w'.ownsRow B 5 1 v' ((m + 1 + 7) / 8) ((pushB l m b).map u8) ∧ Two g v w w' ∧ (v'.ownBlock = v.ownBlock ∨ ∀ k, v'.ownBlock = some k → w.heap.size ≤ k) := by
  by_cases h : m % 8 = 0
  · have h1 := add_new B g t v m ((m + 7) / 8) rest l b w hg ho (by omega) ht hm hB
    rw [show (m + 7) / 8 + 1 = (m + 1 + 7) / 8 by omega] at h1
    exact h1
  · have h1 := add_in B g t v m ((m + 7) / 8) rest l b w hg ho rfl h ht hm
    rw [show (m + 7) / 8 = (m + 1 + 7) / 8 by omega] at h1
    exact h1
end Go.Proofs.Ythgbnpafhkhjpaa
