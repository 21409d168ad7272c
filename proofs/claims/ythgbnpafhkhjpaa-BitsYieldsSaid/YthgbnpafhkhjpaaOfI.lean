/- The iterator of a number's bits. -/
import Derived.Test.YthgbnpafhkhjpaaProg
import Derived.Test.YthgbnpafhkhjpaaIter
import Derived.Shelf.Abstract
import Derived.Shelf.RegionOpen
import Derived.TacticsInMore
import Derived.LoopNIn
import Derived.LoopIn
import Derived.Maps.AppendAt
import Derived.Deep.DeepMust
import Derived.Test.YthgbnpafhkhjpaaGr
namespace Go.Proofs.Ythgbnpafhkhjpaa
open Go.RowKit
attribute [local go_sem] wide_fn wide_depth wide_fn_in wide_depth_in
set_option linter.unusedVariables false
set_option linter.unusedSimpArgs false

theorem i64_and_nat (a b : Nat) (ha : a < 9223372036854775808) (hb : b < 9223372036854775808) : bits .and .i64 (a : Int) (b : Int) = ((a &&& b : Nat) : Int) := by
  have hx : a &&& b < 2 ^ 63 := Nat.and_lt_two_pow _ (by omega)
  show IntKind.i64.wrap ((BitVec.ofInt 64 (a : Int) &&& BitVec.ofInt 64 (b : Int)).toNat : Int) = _
  rw [BitVec.toNat_and, ofInt_i64 a ha, ofInt_i64 b hb, IntKind.wrap_i64]
  omega
theorem i64_xor_nat (a b : Nat) (ha : a < 9223372036854775808) (hb : b < 9223372036854775808) : bits .xor .i64 (a : Int) (b : Int) = ((a ^^^ b : Nat) : Int) := by
  have hx : a ^^^ b < 2 ^ 63 := Nat.xor_lt_two_pow (by omega) (by omega)
  show IntKind.i64.wrap ((BitVec.ofInt 64 (a : Int) ^^^ BitVec.ofInt 64 (b : Int)).toNat : Int) = _
  rw [BitVec.toNat_xor, ofInt_i64 a ha, ofInt_i64 b hb, IntKind.wrap_i64]
  omega
theorem i64_xor_ones (a : Nat) (ha : a < 9223372036854775808) : bits .xor .i64 (a : Int) (-1) = -(a : Int) - 1 := by
  show IntKind.i64.wrap ((BitVec.ofInt 64 (a : Int) ^^^ BitVec.ofInt 64 (-1)).toNat : Int) = _
  have h1 : BitVec.ofInt 64 (-1) = BitVec.allOnes 64 := by decide
  rw [h1, BitVec.xor_allOnes, BitVec.toNat_not, ofInt_i64 a ha, IntKind.wrap_i64]
  omega
/-- The i-th of n bits of v, the most significant one first. -/
def nbit (v n i : Nat) : Bool := v / 2 ^ (n - 1 - i) % 2 == 1

set_option maxRecDepth 100000 in
set_option maxHeartbeats 1000000 in
theorem of_iter (n : Nat) (W : World) (Bb Bv : Nat) (v bits : Nat) (hv : v < 4294967296) (hbits : bits ≤ 32) (h1 : Blk W Bb 3 #[.int .i64 bits]) (h2 : Blk W Bv 3 #[.int .i64 v]) :
    Iter Fence.wide n Try.prog 64 #[.pointer (some ⟨Bb, 0, none⟩), .pointer (some ⟨Bv, 0, none⟩)] (fun i vs _ => vs = #[.bool (nbit v bits i)]) (fun _ X Y => Y.heap[Bv]? = X.heap[Bv]?) (fun X Y => X = Y) bits W := by
  intro l J Jx hJ hJx hY h0
  have HY := Lib.hid hY
  have HB2 := Lib.hid h2
  have hc1 := h1.cell 0
  have hc2 := h2.cell 0
  simp at hc1 hc2
  clear hY hJ hJx h1 h2
  refine callsIn_of_wp Try.func64 rfl trivial ?_ rfl
  simp only [Try.ntmps64, List.size_toArray, List.length_cons, List.length_nil, Nat.reduceAdd, Nat.reduceSub, Array.replicate_succ, Array.replicate_zero, List.push_toArray, List.append_toArray, List.nil_append, List.cons_append]
  gi_wp2_with fail
  gi_loopw [4] (fun r wr => ∃ i : Nat, (i : Int) ≤ bits ∧ r = .int .i64 ((bits : Int) - 1 - i) ∧ J i wr ∧ Hid (Blk wr Bv 3 #[.int .i64 v])) (fun r _ => (intOf r + 1).toNat)
  case atStart => exact ⟨0, by omega, by simp, h0, HB2⟩
  clear hc2
  case round =>
    obtain ⟨i, hi, rfl, hJi, HBv⟩ := hrel
    have hc2 := HBv.out.cell 0
    simp at hc2
    by_cases hlt : (0 : Int) ≤ (bits : Int) - 1 - i
    · have hil : i < bits := by omega
      obtain ⟨x, hx⟩ : ∃ x : Nat, v / 2 ^ (bits - 1 - i) = x := ⟨_, rfl⟩
      have hx2 : x < 9223372036854775808 := by have := Nat.div_le_self v (2 ^ (bits - 1 - i)); omega
      have hxi : (v : Int) / 2 ^ (bits - 1 - i) = x := by rw [← hx]; simp
      have ha : Go.bits BinOp.and IntKind.i64 (x : Int) 1 = ((x % 2 : Nat) : Int) := by
        have := i64_and_nat x 1 hx2 (by omega)
        rw [Nat.and_one_is_mod] at this
        exact this
      have hb : (((x : Int) % 2) == 1) = nbit v bits i := by
        unfold nbit
        rw [hx, Bool.eq_iff_iff]
        simp
        omega
      clear hx
      obtain ⟨fn, tm, asg, bod, hy, hR⟩ := HY.out i hil #[.bool (nbit v bits i)] wr hJi rfl
      have HR := Lib.hid hR
      clear hR
      gi_wp2_with fail
      refine HR.out.mono ?_
      clear hy
      rintro e w3 ⟨-, (⟨rfl, hJ3, hK3⟩ | ⟨rfl, hJx3⟩)⟩
      · have HB3 := Lib.hid (show Blk w3 Bv 3 #[.int .i64 v] from hK3.trans HBv.out)
        gi_wp2_with fail
        exact ⟨⟨i + 1, by omega, congrArg (Value.int .i64) (by omega), hJ3, HB3⟩, by simp [intOf]; omega⟩
      · gi_wp2_with fail
        refine bodyPost_ret (results_none rfl _ _ _) rfl ?_
        exact ⟨⟨_, rfl⟩, .inr ⟨i, hil, hJx3⟩⟩
    · obtain rfl : i = bits := by omega
      gi_wp2_with fail
      go_end0
      exact ⟨⟨_, rfl⟩, .inl hJi⟩
end Go.Proofs.Ythgbnpafhkhjpaa
