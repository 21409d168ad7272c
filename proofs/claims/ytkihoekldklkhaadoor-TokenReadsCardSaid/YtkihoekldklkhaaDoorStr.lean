/- Strings to bytes and back. Over any program. -/
import Derived.Test.YtkihoekldklkhaaDoorBase
import Derived.Test.YtkihoekldklkhaaDoorLaws
import Derived.Lib.ConvBytes
import Derived.Laws.BytesArg
namespace Go.Proofs.YtkihoekldklkhaaDoor
open Go.RowKit

theorem conv_sb {P : Program} (w : World) (src dst e : TypeId) (s : ByteArray) (hs : P.underlying src = some .string) (hd : P.underlying dst = some (.slice e)) (he : P.underlying e = some (.int .u8)) :
    ∃ cap W1, (convert src dst (.string s)).run P w = .ok (.slice (some ⟨w.heap.size, 0, none⟩) s.size cap) W1 ∧ BS W1 W1.heap.size (some ⟨w.heap.size, 0, none⟩) s.data.toList ∧ Below w.heap.size w W1 ∧ s.size ≤ cap ∧ w.heap.size < W1.heap.size := by
  refine ⟨_, _, Lib.run_convert_string_bytes w src dst e s hs hd he, ?_, ?_, grownCap_ge w _ _ _, by rw [Lib.bytesWorld_size]; omega⟩
  · intro h0
    refine ⟨_, _, rfl, by rw [Lib.bytesWorld_size]; omega, fun i hi => ?_⟩
    rw [Nat.zero_add, Lib.bytesWorld_cell w e s i (by simpa using hi)]
    simp only [List.getD, List.getElem?_eq_getElem hi, Option.getD_some]
  · exact ⟨rfl, rfl, rfl, by rw [Lib.bytesWorld_size]; omega, fun k hk => Lib.bytesWorld_at_old w e s k hk⟩

/-- 'string(b)'. -/
theorem conv_bs {P : Program} (w : World) (src dst e : TypeId) (hs : P.underlying src = some (.slice e)) (he : P.underlying e = some (.int .u8)) (hd : P.underlying dst = some .string)
    {A : Option Addr} {n c : Nat} {l : List UInt8} (hl : l.length = n) (h : Holds w A n (l.map u8)) : (convert src dst (.slice A n c)).run P w = .ok (.string ⟨l.toArray⟩) w := by
  cases A with
  | none =>
    obtain ⟨rfl, _⟩ := h.2.1 rfl
    obtain rfl : l = [] := List.eq_nil_of_length_eq_zero hl
    exact run_convert_bytes_nil w src e hs he _ _ dst hd
  | some a =>
    rw [run_convert_bytes_string w src dst e _ _ _ hs he hd]
    have hc := run_loadCells_list (P := P) w a (l.map u8) (fun j v hj => h.2.2 a rfl j v hj)
    rw [List.length_map, hl] at hc
    have e1 : (l.map u8) = (l.map fun x => (x.toNat : Int)).map (Value.int .u8) := by rw [List.map_map]; rfl
    rw [e1] at hc
    rw [run_bytesToString w a n c _ hc, foldl_push_bytes, List.map_map]
    have e2 : (l.map ((fun n => UInt8.ofNat n.toNat) ∘ fun x => (x.toNat : Int))) = l := by
      conv => rhs; rw [← List.map_id l]
      apply List.map_congr_left
      intro x _
      simp
    rw [e2]
    simp [ByteArray.empty, ByteArray.emptyWithCapacity]
    rfl

theorem str_append (l m : List UInt8) : (⟨(l ++ m).toArray⟩ : ByteArray) = ⟨l.toArray⟩ ++ ⟨m.toArray⟩ := by
  apply ByteArray.ext
  simp
end Go.Proofs.YtkihoekldklkhaaDoor
