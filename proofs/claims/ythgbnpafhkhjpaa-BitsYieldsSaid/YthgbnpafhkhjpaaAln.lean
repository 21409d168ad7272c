/- The contract of (*Writer).Align. -/
import Derived.Test.YthgbnpafhkhjpaaByt
namespace Go.Proofs.Ythgbnpafhkhjpaa
open Go.RowKit
set_option linter.unusedVariables false
set_option linter.unusedSimpArgs false

set_option maxRecDepth 100000 in
theorem up_any (v n : Nat) (hv : v ≤ 10000000) (hn : 1 ≤ n) (hn2 : n ≤ 4096) (w : World) : Calls Try.prog 45 #[.int .i64 v, .int .i64 n] w fun e w' => e = .returned (.int .i64 (((v + n - 1) / n * n : Nat) : Int)) ∧ w = w' := by
  have h1 : (v : Int) ≤ 10000000 := by omega
  have h2 : (1 : Int) ≤ n := by omega
  have h3 : (n : Int) ≤ 4096 := by omega
  have h0 : (0 : Int) ≤ v := by omega
  have h4 : ((n : Int) == 0) = false := by simp; omega
  have h5 : ((((v + n - 1) / n * n : Nat)) : Int) = ((v : Int) + n - 1) / n * n := by
    have : ((v + n - 1 : Nat) : Int) = (v : Int) + n - 1 := by omega
    rw [Int.natCast_mul, Int.natCast_ediv, this]
  have h6 : (v + n - 1) / n * n ≤ v + n - 1 := Nat.div_mul_le_self _ _
  have h7 : ((v : Int) + n - 1) / n * n ≤ 20000000 := by rw [← h5]; omega
  have h8 : 0 ≤ ((v : Int) + n - 1) / n * n := by rw [← h5]; omega
  have h9 : ((v : Int) + n - 1) / n ≤ 20000000 := by
    have : ((v : Int) + n - 1) / n = (((v + n - 1) / n : Nat) : Int) := by
      have : ((v + n - 1 : Nat) : Int) = (v : Int) + n - 1 := by omega
      rw [Int.natCast_ediv, this]
    rw [this]
    have := Nat.div_le_self (v + n - 1) n
    omega
  have h10 : 0 ≤ ((v : Int) + n - 1) / n := Int.ediv_nonneg (by omega) (by omega)
  rw [h5]
  clear h5 h6 hv hn hn2
  generalize (v : Int) = V at *
  generalize (n : Int) = M at *
  have h11 : (V + M - 1).tdiv M = (V + M - 1) / M := Int.tdiv_eq_ediv_of_nonneg (by omega)
  go_enter Try.func45, Try.ntmps45
  go_wp2_with fail
  go_ret
  exact ⟨rfl, rfl⟩

theorem info5b : (Try.prog.info? 5).map (fun i => (i.zero, i.size, i.bytes)) = some (some (.int .u8 0), 1, 1) := by kernel_rfl
theorem make_any (k : Nat) (hk : k ≤ 1000000) (w : World) : (Instr.makeSlice 27 (.int .i64 k) (.int .i64 k)).run Try.prog w = .ok (.slice (some ⟨w.heap.size, 0, none⟩) k k) (w.alloc (.cells (madeCells #[.int .u8 0] k) 5)) := by
  obtain ⟨i0, hi0, hz0, hz1, hz2⟩ := info_parts' info5b
  have h := run_make (P := Try.prog) w 27 5 i0 (.int .u8 0) Try.underlying27 hi0 hz0 .i64 .i64 k k (by omega) (by omega) (by rw [hz2]; omega) (by omega)
  rw [hz1, show (Value.int .u8 0).cells = #[.int .u8 0] from rfl] at h
  simpa using h
theorem made_u8 (k : Nat) : (madeCells #[.int .u8 0] k).toList = (List.replicate k (0 : UInt8)).map u8 := by
  rw [toList_madeCells_one, List.map_replicate]
  rfl
theorem made_holds (W : World) (k : Nat) : Holds (W.alloc (.cells (madeCells #[.int .u8 0] k) 5)) (some ⟨W.heap.size, 0, none⟩) k ((List.replicate k (0 : UInt8)).map u8) := by
  refine ⟨by simp, (fun h => by cases h), fun b hb j u hu => ?_⟩
  cases hb
  rw [Addr.add_lit, (Blk.new W 5 _).cell, Nat.zero_add, ← hu, ← made_u8]
  simp

/-- How many bits 0 there are up to the next multiple. -/
def upTo (m n : Nat) : Nat := (m + n - 1) / n * n - m
theorem upTo_le (m n : Nat) (hn : 1 ≤ n) : upTo m n < n ∧ m + upTo m n = (m + n - 1) / n * n := by
  have h1 : (m + n - 1) / n * n ≤ m + n - 1 := Nat.div_mul_le_self _ _
  have h2 := Nat.div_add_mod (m + n - 1) n
  rw [Nat.mul_comm] at h2
  have h3 := Nat.mod_lt (m + n - 1) (show 0 < n by omega)
  unfold upTo
  omega
def alignOk (n : Int) : Bool := decide (1 ≤ n) && decide (n ≤ 4096)
def alignN (m : Nat) (n : Int) : Nat := if alignOk n then upTo m n.toNat else 0

set_option maxRecDepth 100000 in
set_option maxHeartbeats 2000000 in
theorem align_walk (p : Option Addr) (n : Int) (m : Nat) (there : Bool) (Q : Int → World → Prop) (w : World) (hm : m ≤ 8388608)
    (h36 : ∀ W, Below w.heap.size w W → Calls Try.prog 36 #[.pointer p] W fun e w' => e = .returned (.bool there) ∧ W = w')
    (h13 : ∀ W, Below w.heap.size w W → Calls Try.prog 13 #[.pointer p] W fun e w' => e = .returned (.int .i64 m) ∧ W = w')
    (h34 : ∀ (b Pb Sb k : Nat) (W : World), k = alignN m n / 8 + 1 → Below w.heap.size w W → CS W b 0 [(there, 1), (alignOk n, 2)] → w.heap.size ≤ Pb → w.heap.size ≤ Sb → Blk W Pb 3 #[.int .i64 0] → Blk W Sb 98 #[.pointer (some ⟨w.heap.size + 1, 0, none⟩)] → Blk W (w.heap.size + 1) 61 #[.slice (some ⟨w.heap.size, 0, none⟩) k k, .int .i64 (alignN m n : Int)] →
      Holds W (some ⟨w.heap.size, 0, none⟩) k ((List.replicate k (0 : UInt8)).map u8) →
      Calls Try.prog 34 #[.pointer p, .func (.func 65) #[] #[.pointer (some ⟨Pb, 0, none⟩), .pointer (some ⟨Sb, 0, none⟩)], .int .i64 (alignN m n : Int), .slice (some ⟨b, 0, none⟩) 2 2] W fun e w' => ∃ x, e = .returned (.int .i64 x) ∧ Q x w') :
    Calls Try.prog 33 #[.pointer p, .int .i64 n] w fun e w' => ∃ x, e = .returned (.int .i64 x) ∧ Q x w' := by
  have C36 := Lib.hid h36
  have C13 := Lib.hid (h13 w (Below.refl _ _))
  have H34 := Lib.hid h34
  clear h36 h13 h34
  cases ha : alignOk n
  · have hz : alignN m n = 0 := by unfold alignN; rw [ha]; rfl
    rw [ha, hz] at H34
    have ha2 : (decide (1 ≤ n) && decide (n ≤ 4096)) = false := ha
    have hmk := make_any 1 (by omega) w
    rw [show ((1 : Nat) : Int) = 1 from rfl] at hmk
    rw [show ((0 : Nat) : Int) = 0 from rfl] at H34
    go_enter Try.func33, Try.ntmps33
    go_wp2_with (first
      | (go_at_call 37; (with_reducible refine (in_any _ _ _ _).mono ?_); rintro e w1 ⟨rfl, rfl⟩)
      | (go_at_call 40; (with_reducible refine (from_any _ _ _).mono ?_); rintro e w1 ⟨rfl, rfl⟩)
      | (go_at_call 36; (refine (C36.out _ ?_).mono ?_); (· repeat' first | exact Below.refl _ _ | refine Below.alloc ?_ (by first | (simp; done) | (simp; omega) | omega) _); rintro e w1 ⟨rfl, rfl⟩)
      | (go_at_call 34; go_loud (refine (H34.out _ _ _ 1 _ ?_ ?_ ?_ ?_ ?_ ?_ ?_ ?_ ?_).mono ?_); (· rfl); (· repeat' first | exact Below.refl _ _ | refine Below.alloc ?_ (by first | (simp; done) | (simp; omega) | omega) _); (· repeat' first | exact cs_at2 (by simp) | refine CS.alloc ?_ _); (· first | (simp; done) | (simp; omega) | omega); (· first | (simp; done) | (simp; omega) | omega); (· repeat' first | exact blk_at (by simp) | refine Blk.alloc ?_ _); (· repeat' first | exact blk_at (by simp) | refine Blk.alloc ?_ _); (· repeat' first | exact blk_at (by simp) | refine Blk.alloc ?_ _); (· repeat' first | exact made_holds _ _ | refine Holds.alloc ?_ _); rintro e w1 ⟨x, rfl, hQ⟩))
    go_ret
    exact ⟨x, rfl, hQ⟩
  · have ha1 : 1 ≤ n ∧ n ≤ 4096 := by simpa [alignOk] using ha
    obtain ⟨k, rfl⟩ : ∃ k : Nat, n = k := ⟨n.toNat, by omega⟩
    have ha2 : (decide (1 ≤ (k : Int)) && decide ((k : Int) ≤ 4096)) = true := ha
    have hz : alignN m k = upTo m k := by unfold alignN; rw [ha]; rfl
    rw [ha, hz] at H34
    have hu := upTo_le m k (by omega)
    have CU := Lib.hid (up_any m k (by omega) (by omega) (by omega) w)
    rw [← hu.2] at CU
    generalize upTo m k = u at *
    obtain ⟨q, hq⟩ : ∃ q, u / 8 = q := ⟨_, rfl⟩
    have HQ := Lib.hid (show q + 1 = u / 8 + 1 by omega)
    have hq2 : (u : Int) / 8 = q := by omega
    have hub : (u : Int) ≤ 4096 := by omega
    have hu0 : (0 : Int) ≤ u := by omega
    have hq0 : (0 : Int) ≤ q := by omega
    have hmk := make_any (q + 1) (by omega) w
    have hm0 : (0 : Int) ≤ m := by omega
    have hm1 : (m : Int) ≤ 8388608 := by omega
    have hsub : (m : Int) + u - m = u := by omega
    simp only [Int.natCast_add, Int.cast_ofNat_Int] at CU hmk
    clear hu hq ha1 hz
    go_enter Try.func33, Try.ntmps33
    go_wp2_with (first
      | (go_at_call 37; (with_reducible refine (in_any _ _ _ _).mono ?_); rintro e w1 ⟨rfl, rfl⟩)
      | (go_at_call 13; (with_reducible refine C13.out.mono ?_); rintro e w1 ⟨rfl, rfl⟩)
      | (go_at_call 45; go_loud (with_reducible refine CU.out.mono ?_); rintro e w1 ⟨rfl, rfl⟩)
      | (go_at_call 40; (with_reducible refine (from_any _ _ _).mono ?_); rintro e w1 ⟨rfl, rfl⟩)
      | (go_at_call 36; (refine (C36.out _ ?_).mono ?_); (· repeat' first | exact Below.refl _ _ | refine Below.alloc ?_ (by first | (simp; done) | (simp; omega) | omega) _); rintro e w1 ⟨rfl, rfl⟩)
      | (go_at_call 34; go_loud (refine (H34.out _ _ _ (q + 1) _ ?_ ?_ ?_ ?_ ?_ ?_ ?_ ?_ ?_).mono ?_); (· exact HQ.out); (· repeat' first | exact Below.refl _ _ | refine Below.alloc ?_ (by first | (simp; done) | (simp; omega) | omega) _); (· repeat' first | exact cs_at2 (by simp) | refine CS.alloc ?_ _); (· first | (simp; done) | (simp; omega) | omega); (· first | (simp; done) | (simp; omega) | omega); (· repeat' first | exact blk_at (by simp) | refine Blk.alloc ?_ _); (· repeat' first | exact blk_at (by simp) | refine Blk.alloc ?_ _); (· repeat' first | exact blk_at (by simp) | refine Blk.alloc ?_ _); (· repeat' first | exact made_holds _ _ | refine Holds.alloc ?_ _); rintro e w1 ⟨x, rfl, hQ⟩))
    go_ret
    exact ⟨x, rfl, hQ⟩
end Go.Proofs.Ythgbnpafhkhjpaa
