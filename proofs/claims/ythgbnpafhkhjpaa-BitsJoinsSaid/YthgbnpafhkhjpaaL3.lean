/- The walk of BitsJoins. -/
import Derived.Test.YthgbnpafhkhjpaaPw
namespace Go.Proofs.Ythgbnpafhkhjpaa
open Go.RowKit
set_option linter.unusedVariables false
set_option linter.unusedSimpArgs false

theorem holds4 {w : World} {A : Option Addr} {bs : List Bool} (h : Holds w A 4 ((pack bs).map u8)) (hl : bs.length = 32) : ∃ b o, A = some ⟨b, o, none⟩ ∧ ∀ i, i < 4 → w.cell? ⟨b, o + i, none⟩ = some (.int .u8 ((UInt8.ofNat (byteV bs i)).toNat : Int)) := by
  have hg : ∀ i, i < 4 → ((pack bs).map u8)[i]? = some (.int .u8 ((UInt8.ofNat (byteV bs i)).toNat : Int)) := fun i hi => by
    have : i < (pack bs).length := by rw [pack_length]; omega
    rw [List.getElem?_map, List.getElem?_eq_getElem this, pack_get]
    rfl
  obtain ⟨b, o, rfl, _⟩ := bs_cell h (by omega) (hg 0 (by omega))
  exact ⟨b, o, rfl, fun i hi => by have := h.2.2 _ rfl i _ (hg i hi); rwa [Addr.add_lit] at this⟩

set_option maxRecDepth 100000 in
set_option maxHeartbeats 8000000 in
theorem joins_main (x y m n ahead : Nat) (w : World) (hm : 1 ≤ m) (hn : 1 ≤ n) (hm31 : m ≤ 31) (hn31 : n ≤ 31) (hmn : m + n ≤ 32) (hx : x < 2 ^ m) (hy : y < 2 ^ n) (ha : 1 ≤ ahead) (ha31 : ahead ≤ 31) :
    Calls Try.prog 3 #[.int .i64 x, .int .i64 y, .int .i64 m, .int .i64 n, .int .i64 ahead] w fun e w' => e = .returned (.bool true) ∧ Below w.heap.size w w' := by
  have hxy : x * 2 ^ n + y < 2 ^ (m + n) := by
    have h1 : (x + 1) * 2 ^ n ≤ 2 ^ m * 2 ^ n := Nat.mul_le_mul_right _ hx
    rw [Nat.add_mul, Nat.one_mul] at h1
    rw [Nat.pow_add]
    omega
  have hp32 : 2 ^ (m + n) ≤ 2 ^ 32 := Nat.pow_le_pow_right (by omega) hmn
  have hpm : 2 ^ m ≤ 2 ^ 31 := Nat.pow_le_pow_right (by omega) hm31
  have hpn : 2 ^ n ≤ 2 ^ 31 := Nat.pow_le_pow_right (by omega) hn31
  have q1 : decide ((m : Int) < 1) = false := by simp; omega
  have q2 : decide ((n : Int) < 1) = false := by simp; omega
  have q3 : decide (31 < (m : Int)) = false := by simp; omega
  have q4 : decide (31 < (n : Int)) = false := by simp; omega
  have q5 : decide (32 < (m : Int) + n) = false := by simp; omega
  have q6 : decide ((x : Int) < 0) = false := by simp
  have q7 : decide ((y : Int) < 0) = false := by simp
  have cM : (2 : Int) ^ m = ((2 ^ m : Nat) : Int) := by simp
  have cN : (2 : Int) ^ n = ((2 ^ n : Nat) : Int) := by simp
  have q8 : decide ((2 : Int) ^ m ≤ x) = false := by rw [cM]; simp only [decide_eq_false_iff_not]; omega
  have q9 : decide ((2 : Int) ^ n ≤ y) = false := by rw [cN]; simp only [decide_eq_false_iff_not]; omega
  have q10 : decide ((ahead : Int) < 1) = false := by simp; omega
  have q11 : decide (31 < (ahead : Int)) = false := by simp; omega
  have r1 : (1 : Int) ≤ 2 ^ m := by rw [cM]; have := Nat.two_pow_pos m; omega
  have r2 : (2 : Int) ^ m ≤ 2147483648 := by rw [cM]; omega
  have r3 : (1 : Int) ≤ 2 ^ n := by rw [cN]; have := Nat.two_pow_pos n; omega
  have r4 : (2 : Int) ^ n ≤ 2147483648 := by rw [cN]; omega
  have r5 : (x : Int) * 2 ^ n ≤ 4294967296 := by rw [cN, ← Int.natCast_mul]; omega
  have r6 : (0 : Int) ≤ (x : Int) * 2 ^ n := by rw [cN, ← Int.natCast_mul]; omega
  have r7 : (m : Int) < 64 := by omega
  have r8 : (n : Int) < 64 := by omega
  have r9 : (0 : Int) ≤ m := by omega
  have r10 : (0 : Int) ≤ n := by omega
  have r11 : (0 : Int) ≤ x := by omega
  have r12 : (0 : Int) ≤ y := by omega
  have r13 : (x : Int) * 2 ^ n + y ≤ 4294967296 := by rw [cN, ← Int.natCast_mul]; omega
  have HX := Lib.hid hx
  have HYY := Lib.hid hy
  have HXY := Lib.hid hxy
  obtain ⟨L, hL⟩ : ∃ L, ((([] ++ numBits 0 ahead) ++ numBits x m) ++ numBits y n) = L := ⟨_, rfl⟩
  have HL := Lib.hid hL
  have HEQ := Lib.hid (show (([] ++ numBits 0 ahead) ++ numBits (x * 2 ^ n + y) (m + n)) = L by rw [numBits_append x m y n hy, ← hL]; simp)
  have HLEN := Lib.hid (show L.length ≤ 8000000 by rw [← hL]; simp [numBits_length]; omega)
  have HF0 := Lib.hid (show 0 + ahead ≤ 8 * (pack L).length by rw [pack_length, ← hL]; simp [numBits_length]; omega)
  have HF1 := Lib.hid (show ahead + m ≤ 8 * (pack L).length by rw [pack_length, ← hL]; simp [numBits_length]; omega)
  have HF2 := Lib.hid (show ahead + m + n ≤ 8 * (pack L).length by rw [pack_length, ← hL]; simp [numBits_length]; omega)
  have HB1 := Lib.hid (show bitsV (cut (pack L) ahead m) = x by
    have h := cut_mid ([] ++ numBits 0 ahead) (numBits x m) (numBits y n)
    rw [hL] at h
    simp only [List.nil_append, numBits_length] at h
    rw [h]; exact bitsV_num m x hx)
  have HB2 := Lib.hid (show bitsV (cut (pack L) (ahead + m) n) = y by
    have h := cut_mid ([] ++ numBits 0 ahead ++ numBits x m) (numBits y n) []
    rw [List.append_nil, hL] at h
    simp only [List.nil_append, List.length_append, numBits_length] at h
    rw [h]; exact bitsV_num n y hy)
  have HX32 := Lib.hid (show x < 2 ^ 32 by omega)
  have P00 := Lib.hid (Below.refl w.heap.size w)
  clear hL cM cN hx hy hxy hp32 hpm hpn
  go_enter Try.func3, Try.ntmps3
  go_wp2_with fail
  (refine (PW.new P00.out).mono ?_); rintro e wa ⟨rfl, sa, ba⟩
  have SA := Lib.hid sa
  have BA := Lib.hid ba
  clear sa ba
  go_wp2_with fail
  (refine (PW.new (P00.out.trans BA.out)).mono ?_); rintro e wb ⟨rfl, sb, bb⟩
  have P0 := Lib.hid (PW.make SA.out (Nat.le_refl _) BA.out sb bb)
  have P0d := Lib.hid (show PW w wb.drew _ _ _ _ [] [] from P0.out.over (below_drew (Below.refl _ _)))
  clear sb bb
  go_wp2_with fail
  refine wp_region_G (S0 := (fun (_ : World) => True)) (S1 := (fun (_ : World) => True)) (c := 50) (by kernel_rfl) ?_
  have hHeld := trivial
  have h01 := (fun (_ : World) (_ : True) => trivial)
  refine wpG_takeA (i := 0) (oi := ⟨some 74, _, _, _, _, _⟩) (v := ?_) rfl (by kernel_rfl) (by kernel_rfl) (by kernel_rfl) (by decide) (fun _ _ _ h => h) h01 rfl hHeld (Or.inl ⟨by rfl, ?_⟩) ?_
  rotate_left
  · (intro w hSw; (try dsimp only at hSw); go_simp; (try with_reducible rfl))
  try simp only [Act.put, List.setIfInBounds_toArray, List.set_cons_zero, List.set_cons_succ]
  refine wpG_takeA (i := 1) (oi := ⟨some 75, _, _, _, _, _⟩) (v := ?_) rfl (by kernel_rfl) (by kernel_rfl) (by kernel_rfl) (by decide) (fun _ _ _ h => h) h01 rfl hHeld (Or.inl ⟨by rfl, ?_⟩) ?_
  rotate_left
  · (intro w hSw; (try dsimp only at hSw); go_simp; (try with_reducible rfl))
  try simp only [Act.put, List.setIfInBounds_toArray, List.set_cons_zero, List.set_cons_succ]
  refine wpG_oneA (i := 2) (o := ⟨some 76, _, _, _, _, _⟩) (by kernel_rfl) rfl rfl (fun K hK => ?_)
  go_simp
  (refine (P0d.out.put 0 ahead (by omega) (by omega) (Nat.two_pow_pos _) (by simp [numBits_length] <;> omega)).mono ?_); rintro e w1 ⟨rfl, u1, p1⟩
  have P1 := Lib.hid p1
  clear p1
  refine hK.out _ _ trivial (fun hHeld => ?_)
  clear hK K
  try simp only [Act.put, List.setIfInBounds_toArray, List.set_cons_zero, List.set_cons_succ]
  refine wpG_takeA (i := 3) (oi := ⟨some 77, _, _, _, _, _⟩) (v := ?_) rfl (by kernel_rfl) (by kernel_rfl) (by kernel_rfl) (by decide) (fun _ _ _ h => h) h01 rfl hHeld (Or.inl ⟨by rfl, ?_⟩) ?_
  rotate_left
  · (intro w hSw; (try dsimp only at hSw); go_simp; (try with_reducible rfl))
  try simp only [Act.put, List.setIfInBounds_toArray, List.set_cons_zero, List.set_cons_succ]
  refine wpG_takeA (i := 4) (oi := ⟨some 78, _, _, _, _, _⟩) (v := ?_) rfl (by kernel_rfl) (by kernel_rfl) (by kernel_rfl) (by decide) (fun _ _ _ h => h) h01 rfl hHeld (Or.inl ⟨by rfl, ?_⟩) ?_
  rotate_left
  · (intro w hSw; (try dsimp only at hSw); go_simp; (try with_reducible rfl))
  try simp only [Act.put, List.setIfInBounds_toArray, List.set_cons_zero, List.set_cons_succ]
  refine wpG_takeA (i := 5) (oi := ⟨some 79, _, _, _, _, _⟩) (v := ?_) rfl (by kernel_rfl) (by kernel_rfl) (by kernel_rfl) (by decide) (fun _ _ _ h => h) h01 rfl hHeld (Or.inl ⟨by rfl, ?_⟩) ?_
  rotate_left
  · (intro w hSw; (try dsimp only at hSw); go_simp; (try with_reducible rfl))
  try simp only [Act.put, List.setIfInBounds_toArray, List.set_cons_zero, List.set_cons_succ]
  refine wpG_takeA (i := 6) (oi := ⟨some 80, _, _, _, _, _⟩) (v := ?_) rfl (by kernel_rfl) (by kernel_rfl) (by kernel_rfl) (by decide) (fun _ _ _ h => h) h01 rfl hHeld (Or.inl ⟨by rfl, ?_⟩) ?_
  rotate_left
  · (intro w hSw; (try dsimp only at hSw); go_simp; (try with_reducible rfl))
  try simp only [Act.put, List.setIfInBounds_toArray, List.set_cons_zero, List.set_cons_succ]
  refine wpG_takeA (i := 7) (oi := ⟨some 81, _, _, _, _, _⟩) (v := ?_) rfl (by kernel_rfl) (by kernel_rfl) (by kernel_rfl) (by decide) (fun _ _ _ h => h) h01 rfl hHeld (Or.inl ⟨by rfl, ?_⟩) ?_
  rotate_left
  · (intro w hSw; (try dsimp only at hSw); go_simp; (try with_reducible rfl))
  try simp only [Act.put, List.setIfInBounds_toArray, List.set_cons_zero, List.set_cons_succ]
  refine wpG_oneA (i := 8) (o := ⟨some 82, _, _, _, _, _⟩) (by kernel_rfl) rfl rfl (fun K hK => ?_)
  go_simp
  (refine (P1.out.put x m (by omega) (by omega) HX.out (by simp [numBits_length] <;> omega)).mono ?_); rintro e w2 ⟨rfl, u2, p2⟩
  have P2 := Lib.hid p2
  clear p2
  refine hK.out _ _ trivial (fun hHeld => ?_)
  clear hK K
  try simp only [Act.put, List.setIfInBounds_toArray, List.set_cons_zero, List.set_cons_succ]
  refine wpG_takeA (i := 9) (oi := ⟨some 83, _, _, _, _, _⟩) (v := ?_) rfl (by kernel_rfl) (by kernel_rfl) (by kernel_rfl) (by decide) (fun _ _ _ h => h) h01 rfl hHeld (Or.inl ⟨by rfl, ?_⟩) ?_
  rotate_left
  · (intro w hSw; (try dsimp only at hSw); go_simp; (try with_reducible rfl))
  try simp only [Act.put, List.setIfInBounds_toArray, List.set_cons_zero, List.set_cons_succ]
  refine wpG_takeA (i := 10) (oi := ⟨some 84, _, _, _, _, _⟩) (v := ?_) rfl (by kernel_rfl) (by kernel_rfl) (by kernel_rfl) (by decide) (fun _ _ _ h => h) h01 rfl hHeld (Or.inl ⟨by rfl, ?_⟩) ?_
  rotate_left
  · (intro w hSw; (try dsimp only at hSw); go_simp; (try with_reducible rfl))
  try simp only [Act.put, List.setIfInBounds_toArray, List.set_cons_zero, List.set_cons_succ]
  refine wpG_takeA (i := 11) (oi := ⟨some 85, _, _, _, _, _⟩) (v := ?_) rfl (by kernel_rfl) (by kernel_rfl) (by kernel_rfl) (by decide) (fun _ _ _ h => h) h01 rfl hHeld (Or.inl ⟨by rfl, ?_⟩) ?_
  rotate_left
  · (intro w hSw; (try dsimp only at hSw); go_simp; (try with_reducible rfl))
  try simp only [Act.put, List.setIfInBounds_toArray, List.set_cons_zero, List.set_cons_succ]
  refine wpG_takeA (i := 12) (oi := ⟨some 86, _, _, _, _, _⟩) (v := ?_) rfl (by kernel_rfl) (by kernel_rfl) (by kernel_rfl) (by decide) (fun _ _ _ h => h) h01 rfl hHeld (Or.inl ⟨by rfl, ?_⟩) ?_
  rotate_left
  · (intro w hSw; (try dsimp only at hSw); go_simp; (try with_reducible rfl))
  try simp only [Act.put, List.setIfInBounds_toArray, List.set_cons_zero, List.set_cons_succ]
  refine wpG_takeA (i := 13) (oi := ⟨some 87, _, _, _, _, _⟩) (v := ?_) rfl (by kernel_rfl) (by kernel_rfl) (by kernel_rfl) (by decide) (fun _ _ _ h => h) h01 rfl hHeld (Or.inl ⟨by rfl, ?_⟩) ?_
  rotate_left
  · (intro w hSw; (try dsimp only at hSw); go_simp; (try with_reducible rfl))
  try simp only [Act.put, List.setIfInBounds_toArray, List.set_cons_zero, List.set_cons_succ]
  refine wpG_takeA (i := 14) (oi := ⟨some 88, _, _, _, _, _⟩) (v := ?_) rfl (by kernel_rfl) (by kernel_rfl) (by kernel_rfl) (by decide) (fun _ _ _ h => h) h01 rfl hHeld (Or.inl ⟨by rfl, ?_⟩) ?_
  rotate_left
  · (intro w hSw; (try dsimp only at hSw); go_simp; (try with_reducible rfl))
  try simp only [Act.put, List.setIfInBounds_toArray, List.set_cons_zero, List.set_cons_succ]
  refine wpG_oneA (i := 15) (o := ⟨some 89, _, _, _, _, _⟩) (by kernel_rfl) rfl rfl (fun K hK => ?_)
  go_simp
  (refine (P2.out.put y n (by omega) (by omega) HYY.out (by simp [numBits_length] <;> omega)).mono ?_); rintro e w3 ⟨rfl, u3, p3⟩
  rw [HL.out] at p3
  have P3 := Lib.hid p3
  clear p3
  refine hK.out _ _ trivial (fun hHeld => ?_)
  clear hK K
  try simp only [Act.put, List.setIfInBounds_toArray, List.set_cons_zero, List.set_cons_succ]
  refine wpG_takeA (i := 16) (oi := ⟨some 90, _, _, _, _, _⟩) (v := ?_) rfl (by kernel_rfl) (by kernel_rfl) (by kernel_rfl) (by decide) (fun _ _ _ h => h) h01 rfl hHeld (Or.inl ⟨by rfl, ?_⟩) ?_
  rotate_left
  · (intro w hSw; (try dsimp only at hSw); go_simp; (try with_reducible rfl))
  try simp only [Act.put, List.setIfInBounds_toArray, List.set_cons_zero, List.set_cons_succ]
  refine wpG_takeA (i := 17) (oi := ⟨some 91, _, _, _, _, _⟩) (v := ?_) rfl (by kernel_rfl) (by kernel_rfl) (by kernel_rfl) (by decide) (fun _ _ _ h => h) h01 rfl hHeld (Or.inl ⟨by rfl, ?_⟩) ?_
  rotate_left
  · (intro w hSw; (try dsimp only at hSw); go_simp; (try with_reducible rfl))
  try simp only [Act.put, List.setIfInBounds_toArray, List.set_cons_zero, List.set_cons_succ]
  refine wpG_takeA (i := 18) (oi := ⟨some 92, _, _, _, _, _⟩) (v := ?_) rfl (by kernel_rfl) (by kernel_rfl) (by kernel_rfl) (by decide) (fun _ _ _ h => h) h01 rfl hHeld (Or.inl ⟨by rfl, ?_⟩) ?_
  rotate_left
  · (intro w hSw; (try dsimp only at hSw); go_simp; (try with_reducible rfl))
  try simp only [Act.put, List.setIfInBounds_toArray, List.set_cons_zero, List.set_cons_succ]
  refine wpG_takeA (i := 19) (oi := ⟨some 93, _, _, _, _, _⟩) (v := ?_) rfl (by kernel_rfl) (by kernel_rfl) (by kernel_rfl) (by decide) (fun _ _ _ h => h) h01 rfl hHeld (Or.inl ⟨by rfl, ?_⟩) ?_
  rotate_left
  · (intro w hSw; (try dsimp only at hSw); go_simp; (try with_reducible rfl))
  try simp only [Act.put, List.setIfInBounds_toArray, List.set_cons_zero, List.set_cons_succ]
  refine wpG_takeA (i := 20) (oi := ⟨some 94, _, _, _, _, _⟩) (v := ?_) rfl (by kernel_rfl) (by kernel_rfl) (by kernel_rfl) (by decide) (fun _ _ _ h => h) h01 rfl hHeld (Or.inl ⟨by rfl, ?_⟩) ?_
  rotate_left
  · (intro w hSw; (try dsimp only at hSw); go_simp; (try with_reducible rfl))
  try simp only [Act.put, List.setIfInBounds_toArray, List.set_cons_zero, List.set_cons_succ]
  refine wpG_oneA (i := 21) (o := ⟨some 95, _, _, _, _, _⟩) (by kernel_rfl) rfl rfl (fun K hK => ?_)
  go_simp
  (refine (P3.out.symm.put 0 ahead (by omega) (by omega) (Nat.two_pow_pos _) (by simp [numBits_length] <;> omega)).mono ?_); rintro e w4 ⟨rfl, u4, p4⟩
  have P4 := Lib.hid p4
  clear p4
  refine hK.out _ _ trivial (fun hHeld => ?_)
  clear hK K
  try simp only [Act.put, List.setIfInBounds_toArray, List.set_cons_zero, List.set_cons_succ]
  refine wpG_takeA (i := 22) (oi := ⟨some 96, _, _, _, _, _⟩) (v := ?_) rfl (by kernel_rfl) (by kernel_rfl) (by kernel_rfl) (by decide) (fun _ _ _ h => h) h01 rfl hHeld (Or.inl ⟨by rfl, ?_⟩) ?_
  rotate_left
  · (intro w hSw; (try dsimp only at hSw); go_simp; (try with_reducible rfl))
  try simp only [Act.put, List.setIfInBounds_toArray, List.set_cons_zero, List.set_cons_succ]
  refine wpG_takeA (i := 23) (oi := ⟨some 97, _, _, _, _, _⟩) (v := ?_) rfl (by kernel_rfl) (by kernel_rfl) (by kernel_rfl) (by decide) (fun _ _ _ h => h) h01 rfl hHeld (Or.inl ⟨by rfl, ?_⟩) ?_
  rotate_left
  · (intro w hSw; (try dsimp only at hSw); go_simp; (try with_reducible rfl))
  try simp only [Act.put, List.setIfInBounds_toArray, List.set_cons_zero, List.set_cons_succ]
  refine wpG_takeA (i := 24) (oi := ⟨some 98, _, _, _, _, _⟩) (v := ?_) rfl (by kernel_rfl) (by kernel_rfl) (by kernel_rfl) (by decide) (fun _ _ _ h => h) h01 rfl hHeld (Or.inl ⟨by rfl, ?_⟩) ?_
  rotate_left
  · (intro w hSw; (try dsimp only at hSw); go_simp; (try with_reducible rfl))
  try simp only [Act.put, List.setIfInBounds_toArray, List.set_cons_zero, List.set_cons_succ]
  refine wpG_takeA (i := 25) (oi := ⟨some 99, _, _, _, _, _⟩) (v := ?_) rfl (by kernel_rfl) (by kernel_rfl) (by kernel_rfl) (by decide) (fun _ _ _ h => h) h01 rfl hHeld (Or.inl ⟨by rfl, ?_⟩) ?_
  rotate_left
  · (intro w hSw; (try dsimp only at hSw); go_simp; (try with_reducible rfl))
  try simp only [Act.put, List.setIfInBounds_toArray, List.set_cons_zero, List.set_cons_succ]
  refine wpG_takeA (i := 26) (oi := ⟨some 100, _, _, _, _, _⟩) (v := ?_) rfl (by kernel_rfl) (by kernel_rfl) (by kernel_rfl) (by decide) (fun _ _ _ h => h) h01 rfl hHeld (Or.inl ⟨by rfl, ?_⟩) ?_
  rotate_left
  · (intro w hSw; (try dsimp only at hSw); go_simp; (try with_reducible rfl))
  try simp only [Act.put, List.setIfInBounds_toArray, List.set_cons_zero, List.set_cons_succ]
  refine wpG_takeA (i := 27) (oi := ⟨some 101, _, _, _, _, _⟩) (v := ?_) rfl (by kernel_rfl) (by kernel_rfl) (by kernel_rfl) (by decide) (fun _ _ _ h => h) h01 rfl hHeld (Or.inl ⟨by rfl, ?_⟩) ?_
  rotate_left
  · (intro w hSw; (try dsimp only at hSw); go_simp; (try with_reducible rfl))
  try simp only [Act.put, List.setIfInBounds_toArray, List.set_cons_zero, List.set_cons_succ]
  refine wpG_takeA (i := 28) (oi := ⟨some 102, _, _, _, _, _⟩) (v := .int .i64 ((x : Int) * 2 ^ n)) rfl (by kernel_rfl) (by kernel_rfl) (by kernel_rfl) (by decide) (fun _ _ _ h => h) h01 rfl hHeld (Or.inl ⟨by rfl, ?_⟩) ?_
  · (intro w hSw; (try dsimp only at hSw); go_simp; (try simp [IntKind.wrap_i64]); (try omega))
  try simp only [Act.put, List.setIfInBounds_toArray, List.set_cons_zero, List.set_cons_succ]
  refine wpG_takeA (i := 29) (oi := ⟨some 103, _, _, _, _, _⟩) (v := ?_) rfl (by kernel_rfl) (by kernel_rfl) (by kernel_rfl) (by decide) (fun _ _ _ h => h) h01 rfl hHeld (Or.inl ⟨by rfl, ?_⟩) ?_
  rotate_left
  · (intro w hSw; (try dsimp only at hSw); go_simp; (try with_reducible rfl))
  try simp only [Act.put, List.setIfInBounds_toArray, List.set_cons_zero, List.set_cons_succ]
  refine wpG_takeA (i := 30) (oi := ⟨some 104, _, _, _, _, _⟩) (v := .int .i64 ((x * 2 ^ n + y : Nat) : Int)) rfl (by kernel_rfl) (by kernel_rfl) (by kernel_rfl) (by decide) (fun _ _ _ h => h) h01 rfl hHeld (Or.inl ⟨by rfl, ?_⟩) ?_
  · (intro w hSw; (try dsimp only at hSw); go_simp; (try simp [IntKind.wrap_i64]); (try omega))
  try simp only [Act.put, List.setIfInBounds_toArray, List.set_cons_zero, List.set_cons_succ]
  refine wpG_takeA (i := 31) (oi := ⟨some 105, _, _, _, _, _⟩) (v := ?_) rfl (by kernel_rfl) (by kernel_rfl) (by kernel_rfl) (by decide) (fun _ _ _ h => h) h01 rfl hHeld (Or.inl ⟨by rfl, ?_⟩) ?_
  rotate_left
  · (intro w hSw; (try dsimp only at hSw); go_simp; (try with_reducible rfl))
  try simp only [Act.put, List.setIfInBounds_toArray, List.set_cons_zero, List.set_cons_succ]
  refine wpG_takeA (i := 32) (oi := ⟨some 106, _, _, _, _, _⟩) (v := ?_) rfl (by kernel_rfl) (by kernel_rfl) (by kernel_rfl) (by decide) (fun _ _ _ h => h) h01 rfl hHeld (Or.inl ⟨by rfl, ?_⟩) ?_
  rotate_left
  · (intro w hSw; (try dsimp only at hSw); go_simp; (try with_reducible rfl))
  try simp only [Act.put, List.setIfInBounds_toArray, List.set_cons_zero, List.set_cons_succ]
  refine wpG_takeA (i := 33) (oi := ⟨some 107, _, _, _, _, _⟩) (v := .int .i64 ((m + n : Nat) : Int)) rfl (by kernel_rfl) (by kernel_rfl) (by kernel_rfl) (by decide) (fun _ _ _ h => h) h01 rfl hHeld (Or.inl ⟨by rfl, ?_⟩) ?_
  · (intro w hSw; (try dsimp only at hSw); go_simp; (try simp [IntKind.wrap_i64]); (try omega))
  try simp only [Act.put, List.setIfInBounds_toArray, List.set_cons_zero, List.set_cons_succ]
  refine wpG_oneA (i := 34) (o := ⟨some 108, _, _, _, _, _⟩) (by kernel_rfl) rfl rfl (fun K hK => ?_)
  go_simp
  (refine (P4.out.put (x * 2 ^ n + y) (m + n) (by omega) (by omega) HXY.out (by simp [numBits_length] <;> omega)).mono ?_); rintro e w5 ⟨rfl, u5, p5⟩
  rw [HEQ.out] at p5
  have P5 := Lib.hid p5
  clear p5
  refine hK.out _ _ trivial (fun hHeld => ?_)
  clear hK K
  try simp only [Act.put, List.setIfInBounds_toArray, List.set_cons_zero, List.set_cons_succ]
  refine wpG_takeA (i := 35) (oi := ⟨some 109, _, _, _, _, _⟩) (v := ?_) rfl (by kernel_rfl) (by kernel_rfl) (by kernel_rfl) (by decide) (fun _ _ _ h => h) h01 rfl hHeld (Or.inl ⟨by rfl, ?_⟩) ?_
  rotate_left
  · (intro w hSw; (try dsimp only at hSw); go_simp; (try with_reducible rfl))
  try simp only [Act.put, List.setIfInBounds_toArray, List.set_cons_zero, List.set_cons_succ]
  refine wpG_takeA (i := 36) (oi := ⟨some 110, _, _, _, _, _⟩) (v := ?_) rfl (by kernel_rfl) (by kernel_rfl) (by kernel_rfl) (by decide) (fun _ _ _ h => h) h01 rfl hHeld (Or.inl ⟨by rfl, ?_⟩) ?_
  rotate_left
  · (intro w hSw; (try dsimp only at hSw); go_simp; (try with_reducible rfl))
  try simp only [Act.put, List.setIfInBounds_toArray, List.set_cons_zero, List.set_cons_succ]
  refine wpG_takeA (i := 37) (oi := ⟨some 111, _, _, _, _, _⟩) (v := ?_) rfl (by kernel_rfl) (by kernel_rfl) (by kernel_rfl) (by decide) (fun _ _ _ h => h) h01 rfl hHeld (Or.inl ⟨by rfl, ?_⟩) ?_
  rotate_left
  · (intro w hSw; (try dsimp only at hSw); go_simp; (try with_reducible rfl))
  try simp only [Act.put, List.setIfInBounds_toArray, List.set_cons_zero, List.set_cons_succ]
  refine wpG_takeA (i := 38) (oi := ⟨some 112, _, _, _, _, _⟩) (v := ?_) rfl (by kernel_rfl) (by kernel_rfl) (by kernel_rfl) (by decide) (fun _ _ _ h => h) h01 rfl hHeld (Or.inl ⟨by rfl, ?_⟩) ?_
  rotate_left
  · (intro w hSw; (try dsimp only at hSw); go_simp; (try with_reducible rfl))
  try simp only [Act.put, List.setIfInBounds_toArray, List.set_cons_zero, List.set_cons_succ]
  refine wpG_takeA (i := 41) (oi := ⟨some 115, _, _, _, _, _⟩) (v := ?_) rfl (by kernel_rfl) (by kernel_rfl) (by kernel_rfl) (by decide) (fun _ _ _ h => h) h01 rfl hHeld (Or.inl ⟨by rfl, ?_⟩) ?_
  rotate_left
  · (intro w hSw; (try dsimp only at hSw); go_simp; (try with_reducible rfl))
  try simp only [Act.put, List.setIfInBounds_toArray, List.set_cons_zero, List.set_cons_succ]
  refine wpG_oneA (i := 39) (o := ⟨some 113, _, _, _, _, _⟩) (by kernel_rfl) rfl rfl (fun K hK => ?_)
  go_simp
  (refine (P5.out.symm.out HLEN.out).mono ?_); rintro e w6 ⟨A6, c6, rfl, hh6, -, p6, b6⟩
  have P6 := Lib.hid p6
  have HH6 := Lib.hid hh6
  clear p6 hh6 b6
  refine hK.out _ _ trivial (fun hHeld => ?_)
  clear hK K
  try simp only [Act.put, List.setIfInBounds_toArray, List.set_cons_zero, List.set_cons_succ]
  refine wpG_mono (S := (fun (w' : World) => Holds w' A6 ((L.length + 7) / 8) ((pack L).map u8))) (c := 50) (fun _ _ => trivial) _ _ _ _ ?_
  clear hHeld h01
  have hHeld := HH6.out
  have h01 := (fun (w' : World) (h : Holds w' A6 ((L.length + 7) / 8) ((pack L).map u8)) => h)
  refine wpG_takeA (i := 40) (oi := ⟨some 114, _, _, _, _, _⟩) (v := .string ⟨(pack L).toArray⟩) rfl (by kernel_rfl) (by kernel_rfl) (by kernel_rfl) (by decide) (fun _ _ _ h => h) h01 rfl hHeld (Or.inl ⟨by rfl, ?_⟩) ?_
  · (intro w hSw; have hcv := conv_bs (P := Try.prog) w 27 9 5 Try.underlying27 Try.underlying5 Try.underlying9 (A := A6) (n := (L.length + 7) / 8) (c := c6) (l := pack L) (pack_length _) hSw; go_simp)
  try simp only [Act.put, List.setIfInBounds_toArray, List.set_cons_zero, List.set_cons_succ]
  refine wpG_oneA (i := 42) (o := ⟨some 116, _, _, _, _, _⟩) (by kernel_rfl) rfl rfl (fun K hK => ?_)
  go_simp
  (refine (P6.out.symm.out HLEN.out).mono ?_); rintro e w7 ⟨A7, c7, rfl, hh7, -, p7, b7⟩
  have P7 := Lib.hid p7
  have HH7 := Lib.hid hh7
  have HH67 := Lib.hid (HH6.out.keep b7)
  clear p7 hh7 b7
  refine hK.out _ _ HH67.out (fun hHeld => ?_)
  clear hK K
  try simp only [Act.put, List.setIfInBounds_toArray, List.set_cons_zero, List.set_cons_succ]
  refine wpG_mono (S := (fun (w' : World) => Holds w' A6 ((L.length + 7) / 8) ((pack L).map u8) ∧ Holds w' A7 ((L.length + 7) / 8) ((pack L).map u8))) (c := 50) (fun _ h => h.1) _ _ _ _ ?_
  clear hHeld h01
  have hHeld := And.intro HH67.out HH7.out
  have h01 := (fun (w' : World) (h : Holds w' A6 ((L.length + 7) / 8) ((pack L).map u8) ∧ Holds w' A7 ((L.length + 7) / 8) ((pack L).map u8)) => h)
  refine wpG_takeA (i := 43) (oi := ⟨some 117, _, _, _, _, _⟩) (v := .string ⟨(pack L).toArray⟩) rfl (by kernel_rfl) (by kernel_rfl) (by kernel_rfl) (by decide) (fun _ _ _ h => h) h01 rfl hHeld (Or.inl ⟨by rfl, ?_⟩) ?_
  · (intro w hSw; have hcv := conv_bs (P := Try.prog) w 27 9 5 Try.underlying27 Try.underlying5 Try.underlying9 (A := A7) (n := (L.length + 7) / 8) (c := c7) (l := pack L) (pack_length _) hSw.2; go_simp)
  try simp only [Act.put, List.setIfInBounds_toArray, List.set_cons_zero, List.set_cons_succ]
  refine wpG_takeA (i := 44) (oi := ⟨some 118, _, _, _, _, _⟩) (v := .bool false) rfl (by kernel_rfl) (by kernel_rfl) (by kernel_rfl) (by decide) (fun _ _ _ h => h) h01 rfl hHeld (Or.inl ⟨by rfl, ?_⟩) ?_
  · (intro w hSw; (try dsimp only at hSw); go_simp; (try simp [IntKind.wrap_i64]); (try omega))
  try simp only [Act.put, List.setIfInBounds_toArray, List.set_cons_zero, List.set_cons_succ]
  refine wpG_takeA (i := 45) (oi := ⟨some 119, _, _, _, _, _⟩) (v := ?_) rfl (by kernel_rfl) (by kernel_rfl) (by kernel_rfl) (by decide) (fun _ _ _ h => h) h01 rfl hHeld (Or.inl ⟨by rfl, ?_⟩) ?_
  rotate_left
  · (intro w hSw; (try dsimp only at hSw); go_simp; (try with_reducible rfl))
  try simp only [Act.put, List.setIfInBounds_toArray, List.set_cons_zero, List.set_cons_succ]
  refine wpG_takeA (i := 46) (oi := ⟨some 120, _, _, _, _, _⟩) (v := ?_) rfl (by kernel_rfl) (by kernel_rfl) (by kernel_rfl) (by decide) (fun _ _ _ h => h) h01 rfl hHeld (Or.inl ⟨by rfl, ?_⟩) ?_
  rotate_left
  · (intro w hSw; (try dsimp only at hSw); go_simp; (try with_reducible rfl))
  try simp only [Act.put, List.setIfInBounds_toArray, List.set_cons_zero, List.set_cons_succ]
  refine wpG_takeA (i := 47) (oi := ⟨some 121, _, _, _, _, _⟩) (v := ?_) rfl (by kernel_rfl) (by kernel_rfl) (by kernel_rfl) (by decide) (fun _ _ _ h => h) h01 rfl hHeld (Or.inl ⟨by rfl, ?_⟩) ?_
  rotate_left
  · (intro w hSw; (try dsimp only at hSw); go_simp; (try with_reducible rfl))
  try simp only [Act.put, List.setIfInBounds_toArray, List.set_cons_zero, List.set_cons_succ]
  refine wpG_takeA (i := 49) (oi := ⟨some 123, _, _, _, _, _⟩) (v := ?_) rfl (by kernel_rfl) (by kernel_rfl) (by kernel_rfl) (by decide) (fun _ _ _ h => h) h01 rfl hHeld (Or.inl ⟨by rfl, ?_⟩) ?_
  rotate_left
  · (intro w hSw; (try dsimp only at hSw); go_simp; (try with_reducible rfl))
  try simp only [Act.put, List.setIfInBounds_toArray, List.set_cons_zero, List.set_cons_succ]
  refine wpG_oneA (i := 48) (o := ⟨some 122, _, _, _, _, _⟩) (by kernel_rfl) rfl rfl (fun K hK => ?_)
  go_simp
  (refine (P7.out.symm.len).mono ?_); rintro e w8 ⟨rfl, rfl⟩
  refine hK.out _ _ hHeld (fun hHeld => ?_)
  clear hK K
  try simp only [Act.put, List.setIfInBounds_toArray, List.set_cons_zero, List.set_cons_succ]
  refine wpG_oneB (i := 50) (o := ⟨some 124, _, _, _, _, _⟩) (by kernel_rfl) rfl rfl (fun K hK => ?_)
  go_simp
  (refine (P7.out.len).mono ?_); rintro e w8 ⟨rfl, rfl⟩
  refine hK.out _ _ hHeld (fun hHeld => ?_)
  clear hK K
  try simp only [Act.put, List.setIfInBounds_toArray, List.set_cons_zero, List.set_cons_succ]
  refine wpG_takeB (i := 51) (oi := ⟨some 125, _, _, _, _, _⟩) (v := .bool false) rfl (by kernel_rfl) (by kernel_rfl) (by kernel_rfl) (by decide) (fun _ _ _ h => h) h01 rfl hHeld (Or.inl ⟨by rfl, ?_⟩) ?_
  · (intro w hSw; (try dsimp only at hSw); go_simp; (try simp [IntKind.wrap_i64]); (try omega))
  try simp only [Act.put, List.setIfInBounds_toArray, List.set_cons_zero, List.set_cons_succ]
  refine wpG_takeB (i := 52) (oi := ⟨some 126, _, _, _, _, _⟩) (v := ?_) rfl (by kernel_rfl) (by kernel_rfl) (by kernel_rfl) (by decide) (fun _ _ _ h => h) h01 rfl hHeld (Or.inl ⟨by rfl, ?_⟩) ?_
  rotate_left
  · (intro w hSw; (try dsimp only at hSw); go_simp; (try with_reducible rfl))
  try simp only [Act.put, List.setIfInBounds_toArray, List.set_cons_zero, List.set_cons_succ]
  refine wpG_done (by kernel_rfl) ?_ _
  clear q1 q2 q3 q4 q5 q6 q7 q8 q9 q10 q11 r1 r2 r3 r4 r5 r6 r7 r8 r9 r10 r11 r12 r13 hHeld h01
  go_wp2_with fail
  (with_reducible refine (P7.out.out HLEN.out).mono ?_); rintro e w8 ⟨A8, c8, rfl, hh8, hc8, p8, b8⟩
  have P8 := Lib.hid p8
  have HH8 := Lib.hid hh8
  have HC8 := Lib.hid hc8
  clear p8 hh8 b8 hc8
  go_wp2_with fail
  (refine (newReader_ok A8 ((L.length + 7) / 8) c8 (pack L) w8 (by have := HLEN.out; omega) HH8.out HC8.out).mono ?_); rintro e w9 ⟨gr, vr, rfl, hgr, r9, b9, -⟩
  have B9 := Lib.hid (P8.out.below.trans (b9.mono P8.out.below.size))
  have hgr2 : w.heap.size ≤ gr := Nat.le_trans P8.out.below.size hgr
  have R9 := Lib.hid r9
  clear r9 b9 hgr
  go_wp2_with fail
  (refine (skip_some _ gr vr (pack L) 0 ahead w9 R9.out).mono ?_); rintro e w10 ⟨rfl, r10, t10⟩
  rw [(skip_fine (pack L) 0 ahead HF0.out).1]
  rw [(skip_fine (pack L) 0 ahead HF0.out).2, Nat.zero_add] at r10
  have B10 := Lib.hid (t10.to_below B9.out B9.out.size hgr2 (fun k hk => by cases hk))
  have R10 := Lib.hid r10
  clear r10 t10
  go_wp2_with fail
  (refine (get_some _ gr vr (pack L) ahead m w10 R10.out).mono ?_); rintro e w11 ⟨rfl, r11, t11⟩
  rw [(get_fine (pack L) ahead m hm (by omega) HF1.out).2, (get_fine (pack L) ahead m hm (by omega) HF1.out).1, HB1.out]
  rw [(get_fine (pack L) ahead m hm (by omega) HF1.out).2] at r11
  have B11 := Lib.hid (t11.to_below B10.out B10.out.size hgr2 (fun k hk => by cases hk))
  have R11 := Lib.hid r11
  clear r11 t11
  go_wp2_with fail
  (refine (get_some _ gr vr (pack L) (ahead + m) n w11 R11.out).mono ?_); rintro e w12 ⟨rfl, r12, t12⟩
  rw [(get_fine (pack L) (ahead + m) n hn (by omega) HF2.out).2, (get_fine (pack L) (ahead + m) n hn (by omega) HF2.out).1, HB2.out]
  have B12 := Lib.hid (t12.to_below B11.out B11.out.size hgr2 (fun k hk => by cases hk))
  clear r12 t12
  go_wp2_with fail
  (refine (PW.new B12.out).mono ?_); rintro e wc ⟨rfl, sc, bc⟩
  have SC := Lib.hid sc
  have BC := Lib.hid bc
  clear sc bc
  go_wp2_with fail
  (refine (PW.new (B12.out.trans (BC.out.mono B12.out.size))).mono ?_); rintro e wd ⟨rfl, sd, bd⟩
  have Q0 := Lib.hid (PW.make SC.out B12.out.size (B12.out.trans (BC.out.mono B12.out.size)) sd bd)
  clear sd bd
  go_wp2_with fail
  (refine (Q0.out.little x HX32.out).mono ?_); rintro e we ⟨rfl, u8v, q1⟩
  have Q1 := Lib.hid q1
  clear q1
  go_wp2_with fail
  (refine (Q1.out.symm.put x 32 (by omega) (by omega) HX32.out (by simp)).mono ?_); rintro e wf ⟨rfl, u9v, q2⟩
  have Q2 := Lib.hid (show PW w wf _ _ _ _ (numBits x 32) (littleBits x 4) from by simpa using q2)
  clear q2
  go_wp2_with fail
  (refine (Q2.out.symm.out (by simp [littleBits])).mono ?_); rintro e wg ⟨Ag, cg, rfl, hhg, -, q3, bg⟩
  have Q3 := Lib.hid q3
  have HHG := Lib.hid hhg
  clear q3 hhg bg
  go_wp2_with fail
  (refine (Q3.out.symm.out (by simp [numBits_length])).mono ?_); rintro e wh ⟨Ah, ch, rfl, hhh, -, q4, bh⟩
  have Q4 := Lib.hid q4
  have HHG2 := Lib.hid (HHG.out.keep bh)
  have HHH := Lib.hid hhh
  clear q4 hhh bh
  rw [show ((littleBits x 4).length + 7) / 8 = 4 by simp [littleBits]] at HHG2 ⊢
  rw [show ((numBits x 32).length + 7) / 8 = 4 by simp [numBits_length]] at HHH ⊢
  go_wp2_with fail
  obtain ⟨bg, og, hAg, hcg⟩ := holds4 HHG2.out (by simp [littleBits])
  obtain ⟨bh, oh, hAh, hch⟩ := holds4 HHH.out (by simp [numBits_length])
  subst hAg
  subst hAh
  have CP0 := hcg 0 (by omega)
  have CP1 := hcg 1 (by omega)
  have CP2 := hcg 2 (by omega)
  have CP3 := hcg 3 (by omega)
  have CQ0 := hch 3 (by omega)
  have CQ1 := hch 2 (by omega)
  have CQ2 := hch 1 (by omega)
  have CQ3 := hch 0 (by omega)
  rw [← bytes_turn x 0 (by omega)] at CQ0
  rw [← bytes_turn x 1 (by omega)] at CQ1
  rw [← bytes_turn x 2 (by omega)] at CQ2
  rw [← bytes_turn x 3 (by omega)] at CQ3
  obtain ⟨z0, hz0⟩ : ∃ z : Int, ((UInt8.ofNat (byteV (littleBits x 4) 0)).toNat : Int) = z := ⟨_, rfl⟩
  obtain ⟨z1, hz1⟩ : ∃ z : Int, ((UInt8.ofNat (byteV (littleBits x 4) 1)).toNat : Int) = z := ⟨_, rfl⟩
  obtain ⟨z2, hz2⟩ : ∃ z : Int, ((UInt8.ofNat (byteV (littleBits x 4) 2)).toNat : Int) = z := ⟨_, rfl⟩
  obtain ⟨z3, hz3⟩ : ∃ z : Int, ((UInt8.ofNat (byteV (littleBits x 4) 3)).toNat : Int) = z := ⟨_, rfl⟩
  rw [hz0] at CP0 CQ0
  rw [hz1] at CP1 CQ1
  rw [hz2] at CP2 CQ2
  rw [hz3] at CP3 CQ3
  rw [Nat.add_zero] at CP0 CQ3
  replace CP0 := Lib.hid CP0
  replace CP1 := Lib.hid CP1
  replace CP2 := Lib.hid CP2
  replace CP3 := Lib.hid CP3
  replace CQ0 := Lib.hid CQ0
  replace CQ1 := Lib.hid CQ1
  replace CQ2 := Lib.hid CQ2
  replace CQ3 := Lib.hid CQ3
  clear hcg hch hz0 hz1 hz2 hz3
  refine wp_region_G (S0 := (fun (w' : World) => w'.cell? ⟨bg, og, none⟩ = some (.int .u8 z0) ∧ w'.cell? ⟨bg, og + 1, none⟩ = some (.int .u8 z1) ∧ w'.cell? ⟨bg, og + 2, none⟩ = some (.int .u8 z2) ∧ w'.cell? ⟨bg, og + 3, none⟩ = some (.int .u8 z3) ∧ w'.cell? ⟨bh, oh + 3, none⟩ = some (.int .u8 z0) ∧ w'.cell? ⟨bh, oh + 2, none⟩ = some (.int .u8 z1) ∧ w'.cell? ⟨bh, oh + 1, none⟩ = some (.int .u8 z2) ∧ w'.cell? ⟨bh, oh, none⟩ = some (.int .u8 z3))) (S1 := (fun (w' : World) => w'.cell? ⟨bg, og, none⟩ = some (.int .u8 z0) ∧ w'.cell? ⟨bg, og + 1, none⟩ = some (.int .u8 z1) ∧ w'.cell? ⟨bg, og + 2, none⟩ = some (.int .u8 z2) ∧ w'.cell? ⟨bg, og + 3, none⟩ = some (.int .u8 z3) ∧ w'.cell? ⟨bh, oh + 3, none⟩ = some (.int .u8 z0) ∧ w'.cell? ⟨bh, oh + 2, none⟩ = some (.int .u8 z1) ∧ w'.cell? ⟨bh, oh + 1, none⟩ = some (.int .u8 z2) ∧ w'.cell? ⟨bh, oh, none⟩ = some (.int .u8 z3))) (c := 45) (by kernel_rfl) ?_
  have hHeld := (show wh.drew.cell? ⟨bg, og, none⟩ = some (.int .u8 z0) ∧ wh.drew.cell? ⟨bg, og + 1, none⟩ = some (.int .u8 z1) ∧ wh.drew.cell? ⟨bg, og + 2, none⟩ = some (.int .u8 z2) ∧ wh.drew.cell? ⟨bg, og + 3, none⟩ = some (.int .u8 z3) ∧ wh.drew.cell? ⟨bh, oh + 3, none⟩ = some (.int .u8 z0) ∧ wh.drew.cell? ⟨bh, oh + 2, none⟩ = some (.int .u8 z1) ∧ wh.drew.cell? ⟨bh, oh + 1, none⟩ = some (.int .u8 z2) ∧ wh.drew.cell? ⟨bh, oh, none⟩ = some (.int .u8 z3) from ⟨CP0.out, CP1.out, CP2.out, CP3.out, CQ0.out, CQ1.out, CQ2.out, CQ3.out⟩)
  have h01 := (fun (w' : World) (h : w'.cell? ⟨bg, og, none⟩ = some (.int .u8 z0) ∧ w'.cell? ⟨bg, og + 1, none⟩ = some (.int .u8 z1) ∧ w'.cell? ⟨bg, og + 2, none⟩ = some (.int .u8 z2) ∧ w'.cell? ⟨bg, og + 3, none⟩ = some (.int .u8 z3) ∧ w'.cell? ⟨bh, oh + 3, none⟩ = some (.int .u8 z0) ∧ w'.cell? ⟨bh, oh + 2, none⟩ = some (.int .u8 z1) ∧ w'.cell? ⟨bh, oh + 1, none⟩ = some (.int .u8 z2) ∧ w'.cell? ⟨bh, oh, none⟩ = some (.int .u8 z3)) => h)
  refine wpG_takeA (i := 0) (oi := ⟨some 187, _, _, _, _, _⟩) (v := ?_) rfl (by kernel_rfl) (by kernel_rfl) (by kernel_rfl) (by decide) (fun _ _ _ h => h) h01 rfl hHeld (Or.inl ⟨by rfl, ?_⟩) ?_
  rotate_left
  · (intro w hSw; (try dsimp only at hSw); go_simp; (try with_reducible rfl))
  try simp only [Act.put, List.setIfInBounds_toArray, List.set_cons_zero, List.set_cons_succ]
  refine wpG_takeA (i := 1) (oi := ⟨some 188, _, _, _, _, _⟩) (v := ?_) rfl (by kernel_rfl) (by kernel_rfl) (by kernel_rfl) (by decide) (fun _ _ _ h => h) h01 rfl hHeld (Or.inl ⟨by rfl, ?_⟩) ?_
  rotate_left
  · (intro w hSw; (try dsimp only at hSw); go_simp; (try with_reducible rfl))
  try simp only [Act.put, List.setIfInBounds_toArray, List.set_cons_zero, List.set_cons_succ]
  refine wpG_takeA (i := 2) (oi := ⟨some 189, _, _, _, _, _⟩) (v := ?_) rfl (by kernel_rfl) (by kernel_rfl) (by kernel_rfl) (by decide) (fun _ _ _ h => h) h01 rfl hHeld (Or.inl ⟨by rfl, ?_⟩) ?_
  rotate_left
  · (intro w hSw; (try dsimp only at hSw); go_simp; (try with_reducible rfl))
  try simp only [Act.put, List.setIfInBounds_toArray, List.set_cons_zero, List.set_cons_succ]
  refine wpG_takeA (i := 3) (oi := ⟨some 190, _, _, _, _, _⟩) (v := ?_) rfl (by kernel_rfl) (by kernel_rfl) (by kernel_rfl) (by decide) (fun _ _ _ h => h) h01 rfl hHeld (Or.inl ⟨by rfl, ?_⟩) ?_
  rotate_left
  · (intro w hSw; (try dsimp only at hSw); go_simp; (try with_reducible rfl))
  try simp only [Act.put, List.setIfInBounds_toArray, List.set_cons_zero, List.set_cons_succ]
  refine wpG_takeA (i := 4) (oi := ⟨some 191, _, _, _, _, _⟩) (v := ?_) rfl (by kernel_rfl) (by kernel_rfl) (by kernel_rfl) (by decide) (fun _ _ _ h => h) h01 rfl hHeld (Or.inl ⟨by rfl, ?_⟩) ?_
  rotate_left
  · (intro w hSw; (try dsimp only at hSw); go_simp; (try with_reducible rfl))
  try simp only [Act.put, List.setIfInBounds_toArray, List.set_cons_zero, List.set_cons_succ]
  refine wpG_takeA (i := 5) (oi := ⟨some 192, _, _, _, _, _⟩) (v := ?_) rfl (by kernel_rfl) (by kernel_rfl) (by kernel_rfl) (by decide) (fun _ _ _ h => h) h01 rfl hHeld (Or.inl ⟨by rfl, ?_⟩) ?_
  rotate_left
  · (intro w hSw; (try dsimp only at hSw); go_simp; (try with_reducible rfl))
  try simp only [Act.put, List.setIfInBounds_toArray, List.set_cons_zero, List.set_cons_succ]
  refine wpG_takeA (i := 6) (oi := ⟨some 193, _, _, _, _, _⟩) (v := ?_) rfl (by kernel_rfl) (by kernel_rfl) (by kernel_rfl) (by decide) (fun _ _ _ h => h) h01 rfl hHeld (Or.inl ⟨by rfl, ?_⟩) ?_
  rotate_left
  · (intro w hSw; (try dsimp only at hSw); go_simp; (try with_reducible rfl))
  try simp only [Act.put, List.setIfInBounds_toArray, List.set_cons_zero, List.set_cons_succ]
  refine wpG_takeA (i := 7) (oi := ⟨some 194, _, _, _, _, _⟩) (v := ?_) rfl (by kernel_rfl) (by kernel_rfl) (by kernel_rfl) (by decide) (fun _ _ _ h => h) h01 rfl hHeld (Or.inl ⟨by rfl, ?_⟩) ?_
  rotate_left
  · (intro w hSw; (try dsimp only at hSw); go_simp; (try with_reducible rfl))
  try simp only [Act.put, List.setIfInBounds_toArray, List.set_cons_zero, List.set_cons_succ]
  refine wpG_takeA (i := 8) (oi := ⟨some 195, _, _, _, _, _⟩) (v := ?_) rfl (by kernel_rfl) (by kernel_rfl) (by kernel_rfl) (by decide) (fun _ _ _ h => h) h01 rfl hHeld (Or.inl ⟨by rfl, ?_⟩) ?_
  rotate_left
  · (intro w hSw; (try dsimp only at hSw); go_simp; (try with_reducible rfl))
  try simp only [Act.put, List.setIfInBounds_toArray, List.set_cons_zero, List.set_cons_succ]
  refine wpG_takeA (i := 9) (oi := ⟨some 196, _, _, _, _, _⟩) (v := ?_) rfl (by kernel_rfl) (by kernel_rfl) (by kernel_rfl) (by decide) (fun _ _ _ h => h) h01 rfl hHeld (Or.inl ⟨by rfl, ?_⟩) ?_
  rotate_left
  · (intro w hSw; (try dsimp only at hSw); go_simp; (try with_reducible rfl))
  try simp only [Act.put, List.setIfInBounds_toArray, List.set_cons_zero, List.set_cons_succ]
  refine wpG_takeA (i := 10) (oi := ⟨some 197, _, _, _, _, _⟩) (v := ?_) rfl (by kernel_rfl) (by kernel_rfl) (by kernel_rfl) (by decide) (fun _ _ _ h => h) h01 rfl hHeld (Or.inl ⟨by rfl, ?_⟩) ?_
  rotate_left
  · (intro w hSw; (try dsimp only at hSw); go_simp; (try with_reducible rfl))
  try simp only [Act.put, List.setIfInBounds_toArray, List.set_cons_zero, List.set_cons_succ]
  refine wpG_takeA (i := 11) (oi := ⟨some 198, _, _, _, _, _⟩) (v := ?_) rfl (by kernel_rfl) (by kernel_rfl) (by kernel_rfl) (by decide) (fun _ _ _ h => h) h01 rfl hHeld (Or.inl ⟨by rfl, ?_⟩) ?_
  rotate_left
  · (intro w hSw; (try dsimp only at hSw); go_simp; (try with_reducible rfl))
  try simp only [Act.put, List.setIfInBounds_toArray, List.set_cons_zero, List.set_cons_succ]
  refine wpG_takeA (i := 12) (oi := ⟨some 199, _, _, _, _, _⟩) (v := ?_) rfl (by kernel_rfl) (by kernel_rfl) (by kernel_rfl) (by decide) (fun _ _ _ h => h) h01 rfl hHeld (Or.inl ⟨by rfl, ?_⟩) ?_
  rotate_left
  · (intro w hSw; (try dsimp only at hSw); go_simp; (try with_reducible rfl))
  try simp only [Act.put, List.setIfInBounds_toArray, List.set_cons_zero, List.set_cons_succ]
  refine wpG_takeA (i := 13) (oi := ⟨some 200, _, _, _, _, _⟩) (v := ?_) rfl (by kernel_rfl) (by kernel_rfl) (by kernel_rfl) (by decide) (fun _ _ _ h => h) h01 rfl hHeld (Or.inl ⟨by rfl, ?_⟩) ?_
  rotate_left
  · (intro w hSw; (try dsimp only at hSw); go_simp; (try with_reducible rfl))
  try simp only [Act.put, List.setIfInBounds_toArray, List.set_cons_zero, List.set_cons_succ]
  refine wpG_takeA (i := 14) (oi := ⟨some 201, _, _, _, _, _⟩) (v := ?_) rfl (by kernel_rfl) (by kernel_rfl) (by kernel_rfl) (by decide) (fun _ _ _ h => h) h01 rfl hHeld (Or.inl ⟨by rfl, ?_⟩) ?_
  rotate_left
  · (intro w hSw; (try dsimp only at hSw); go_simp; (try with_reducible rfl))
  try simp only [Act.put, List.setIfInBounds_toArray, List.set_cons_zero, List.set_cons_succ]
  refine wpG_takeA (i := 15) (oi := ⟨some 202, _, _, _, _, _⟩) (v := ?_) rfl (by kernel_rfl) (by kernel_rfl) (by kernel_rfl) (by decide) (fun _ _ _ h => h) h01 rfl hHeld (Or.inl ⟨by rfl, ?_⟩) ?_
  rotate_left
  · (intro w hSw; (try dsimp only at hSw); go_simp; (try with_reducible rfl))
  try simp only [Act.put, List.setIfInBounds_toArray, List.set_cons_zero, List.set_cons_succ]
  refine wpG_takeA (i := 16) (oi := ⟨some 203, _, _, _, _, _⟩) (v := ?_) rfl (by kernel_rfl) (by kernel_rfl) (by kernel_rfl) (by decide) (fun _ _ _ h => h) h01 rfl hHeld (Or.inl ⟨by rfl, ?_⟩) ?_
  rotate_left
  · (intro w hSw; (try dsimp only at hSw); go_simp; (try with_reducible rfl))
  try simp only [Act.put, List.setIfInBounds_toArray, List.set_cons_zero, List.set_cons_succ]
  refine wpG_takeA (i := 17) (oi := ⟨some 204, _, _, _, _, _⟩) (v := ?_) rfl (by kernel_rfl) (by kernel_rfl) (by kernel_rfl) (by decide) (fun _ _ _ h => h) h01 rfl hHeld (Or.inl ⟨by rfl, ?_⟩) ?_
  rotate_left
  · (intro w hSw; (try dsimp only at hSw); go_simp; (try with_reducible rfl))
  try simp only [Act.put, List.setIfInBounds_toArray, List.set_cons_zero, List.set_cons_succ]
  refine wpG_takeA (i := 18) (oi := ⟨some 205, _, _, _, _, _⟩) (v := ?_) rfl (by kernel_rfl) (by kernel_rfl) (by kernel_rfl) (by decide) (fun _ _ _ h => h) h01 rfl hHeld (Or.inl ⟨by rfl, ?_⟩) ?_
  rotate_left
  · (intro w hSw; (try dsimp only at hSw); go_simp; (try with_reducible rfl))
  try simp only [Act.put, List.setIfInBounds_toArray, List.set_cons_zero, List.set_cons_succ]
  refine wpG_takeA (i := 19) (oi := ⟨some 206, _, _, _, _, _⟩) (v := ?_) rfl (by kernel_rfl) (by kernel_rfl) (by kernel_rfl) (by decide) (fun _ _ _ h => h) h01 rfl hHeld (Or.inl ⟨by rfl, ?_⟩) ?_
  rotate_left
  · (intro w hSw; (try dsimp only at hSw); go_simp; (try with_reducible rfl))
  try simp only [Act.put, List.setIfInBounds_toArray, List.set_cons_zero, List.set_cons_succ]
  refine wpG_takeA (i := 20) (oi := ⟨some 207, _, _, _, _, _⟩) (v := ?_) rfl (by kernel_rfl) (by kernel_rfl) (by kernel_rfl) (by decide) (fun _ _ _ h => h) h01 rfl hHeld (Or.inl ⟨by rfl, ?_⟩) ?_
  rotate_left
  · (intro w hSw; (try dsimp only at hSw); go_simp; (try with_reducible rfl))
  try simp only [Act.put, List.setIfInBounds_toArray, List.set_cons_zero, List.set_cons_succ]
  refine wpG_takeA (i := 21) (oi := ⟨some 208, _, _, _, _, _⟩) (v := ?_) rfl (by kernel_rfl) (by kernel_rfl) (by kernel_rfl) (by decide) (fun _ _ _ h => h) h01 rfl hHeld (Or.inl ⟨by rfl, ?_⟩) ?_
  rotate_left
  · (intro w hSw; (try dsimp only at hSw); go_simp; (try with_reducible rfl))
  try simp only [Act.put, List.setIfInBounds_toArray, List.set_cons_zero, List.set_cons_succ]
  refine wpG_takeA (i := 22) (oi := ⟨some 209, _, _, _, _, _⟩) (v := ?_) rfl (by kernel_rfl) (by kernel_rfl) (by kernel_rfl) (by decide) (fun _ _ _ h => h) h01 rfl hHeld (Or.inl ⟨by rfl, ?_⟩) ?_
  rotate_left
  · (intro w hSw; (try dsimp only at hSw); go_simp; (try with_reducible rfl))
  try simp only [Act.put, List.setIfInBounds_toArray, List.set_cons_zero, List.set_cons_succ]
  refine wpG_takeA (i := 23) (oi := ⟨some 210, _, _, _, _, _⟩) (v := ?_) rfl (by kernel_rfl) (by kernel_rfl) (by kernel_rfl) (by decide) (fun _ _ _ h => h) h01 rfl hHeld (Or.inl ⟨by rfl, ?_⟩) ?_
  rotate_left
  · (intro w hSw; (try dsimp only at hSw); go_simp; (try with_reducible rfl))
  try simp only [Act.put, List.setIfInBounds_toArray, List.set_cons_zero, List.set_cons_succ]
  refine wpG_takeA (i := 24) (oi := ⟨some 211, _, _, _, _, _⟩) (v := ?_) rfl (by kernel_rfl) (by kernel_rfl) (by kernel_rfl) (by decide) (fun _ _ _ h => h) h01 rfl hHeld (Or.inl ⟨by rfl, ?_⟩) ?_
  rotate_left
  · (intro w hSw; (try dsimp only at hSw); go_simp; (try with_reducible rfl))
  try simp only [Act.put, List.setIfInBounds_toArray, List.set_cons_zero, List.set_cons_succ]
  refine wpG_takeA (i := 25) (oi := ⟨some 212, _, _, _, _, _⟩) (v := ?_) rfl (by kernel_rfl) (by kernel_rfl) (by kernel_rfl) (by decide) (fun _ _ _ h => h) h01 rfl hHeld (Or.inl ⟨by rfl, ?_⟩) ?_
  rotate_left
  · (intro w hSw; (try dsimp only at hSw); go_simp; (try with_reducible rfl))
  try simp only [Act.put, List.setIfInBounds_toArray, List.set_cons_zero, List.set_cons_succ]
  refine wpG_takeA (i := 26) (oi := ⟨some 213, _, _, _, _, _⟩) (v := ?_) rfl (by kernel_rfl) (by kernel_rfl) (by kernel_rfl) (by decide) (fun _ _ _ h => h) h01 rfl hHeld (Or.inl ⟨by rfl, ?_⟩) ?_
  rotate_left
  · (intro w hSw; (try dsimp only at hSw); go_simp; (try with_reducible rfl))
  try simp only [Act.put, List.setIfInBounds_toArray, List.set_cons_zero, List.set_cons_succ]
  refine wpG_takeA (i := 27) (oi := ⟨some 214, _, _, _, _, _⟩) (v := ?_) rfl (by kernel_rfl) (by kernel_rfl) (by kernel_rfl) (by decide) (fun _ _ _ h => h) h01 rfl hHeld (Or.inl ⟨by rfl, ?_⟩) ?_
  rotate_left
  · (intro w hSw; (try dsimp only at hSw); go_simp; (try with_reducible rfl))
  try simp only [Act.put, List.setIfInBounds_toArray, List.set_cons_zero, List.set_cons_succ]
  refine wpG_takeA (i := 28) (oi := ⟨some 215, _, _, _, _, _⟩) (v := ?_) rfl (by kernel_rfl) (by kernel_rfl) (by kernel_rfl) (by decide) (fun _ _ _ h => h) h01 rfl hHeld (Or.inl ⟨by rfl, ?_⟩) ?_
  rotate_left
  · (intro w hSw; (try dsimp only at hSw); go_simp; (try with_reducible rfl))
  try simp only [Act.put, List.setIfInBounds_toArray, List.set_cons_zero, List.set_cons_succ]
  refine wpG_takeA (i := 29) (oi := ⟨some 216, _, _, _, _, _⟩) (v := ?_) rfl (by kernel_rfl) (by kernel_rfl) (by kernel_rfl) (by decide) (fun _ _ _ h => h) h01 rfl hHeld (Or.inl ⟨by rfl, ?_⟩) ?_
  rotate_left
  · (intro w hSw; (try dsimp only at hSw); go_simp; (try with_reducible rfl))
  try simp only [Act.put, List.setIfInBounds_toArray, List.set_cons_zero, List.set_cons_succ]
  refine wpG_takeA (i := 30) (oi := ⟨some 217, _, _, _, _, _⟩) (v := ?_) rfl (by kernel_rfl) (by kernel_rfl) (by kernel_rfl) (by decide) (fun _ _ _ h => h) h01 rfl hHeld (Or.inl ⟨by rfl, ?_⟩) ?_
  rotate_left
  · (intro w hSw; (try dsimp only at hSw); go_simp; (try with_reducible rfl))
  try simp only [Act.put, List.setIfInBounds_toArray, List.set_cons_zero, List.set_cons_succ]
  refine wpG_takeA (i := 31) (oi := ⟨some 218, _, _, _, _, _⟩) (v := ?_) rfl (by kernel_rfl) (by kernel_rfl) (by kernel_rfl) (by decide) (fun _ _ _ h => h) h01 rfl hHeld (Or.inl ⟨by rfl, ?_⟩) ?_
  rotate_left
  · (intro w hSw; (try dsimp only at hSw); go_simp; (try with_reducible rfl))
  try simp only [Act.put, List.setIfInBounds_toArray, List.set_cons_zero, List.set_cons_succ]
  refine wpG_takeA (i := 32) (oi := ⟨some 219, _, _, _, _, _⟩) (v := ?_) rfl (by kernel_rfl) (by kernel_rfl) (by kernel_rfl) (by decide) (fun _ _ _ h => h) h01 rfl hHeld (Or.inl ⟨by rfl, ?_⟩) ?_
  rotate_left
  · (intro w hSw; (try dsimp only at hSw); go_simp; (try with_reducible rfl))
  try simp only [Act.put, List.setIfInBounds_toArray, List.set_cons_zero, List.set_cons_succ]
  refine wpG_takeA (i := 33) (oi := ⟨some 220, _, _, _, _, _⟩) (v := ?_) rfl (by kernel_rfl) (by kernel_rfl) (by kernel_rfl) (by decide) (fun _ _ _ h => h) h01 rfl hHeld (Or.inl ⟨by rfl, ?_⟩) ?_
  rotate_left
  · (intro w hSw; (try dsimp only at hSw); go_simp; (try with_reducible rfl))
  try simp only [Act.put, List.setIfInBounds_toArray, List.set_cons_zero, List.set_cons_succ]
  refine wpG_takeA (i := 34) (oi := ⟨some 221, _, _, _, _, _⟩) (v := ?_) rfl (by kernel_rfl) (by kernel_rfl) (by kernel_rfl) (by decide) (fun _ _ _ h => h) h01 rfl hHeld (Or.inl ⟨by rfl, ?_⟩) ?_
  rotate_left
  · (intro w hSw; (try dsimp only at hSw); go_simp; (try with_reducible rfl))
  try simp only [Act.put, List.setIfInBounds_toArray, List.set_cons_zero, List.set_cons_succ]
  refine wpG_takeA (i := 35) (oi := ⟨some 222, _, _, _, _, _⟩) (v := ?_) rfl (by kernel_rfl) (by kernel_rfl) (by kernel_rfl) (by decide) (fun _ _ _ h => h) h01 rfl hHeld (Or.inl ⟨by rfl, ?_⟩) ?_
  rotate_left
  · (intro w hSw; (try dsimp only at hSw); go_simp; (try with_reducible rfl))
  try simp only [Act.put, List.setIfInBounds_toArray, List.set_cons_zero, List.set_cons_succ]
  refine wpG_takeA (i := 36) (oi := ⟨some 223, _, _, _, _, _⟩) (v := ?_) rfl (by kernel_rfl) (by kernel_rfl) (by kernel_rfl) (by decide) (fun _ _ _ h => h) h01 rfl hHeld (Or.inl ⟨by rfl, ?_⟩) ?_
  rotate_left
  · (intro w hSw; (try dsimp only at hSw); go_simp; (try with_reducible rfl))
  try simp only [Act.put, List.setIfInBounds_toArray, List.set_cons_zero, List.set_cons_succ]
  refine wpG_takeA (i := 37) (oi := ⟨some 224, _, _, _, _, _⟩) (v := ?_) rfl (by kernel_rfl) (by kernel_rfl) (by kernel_rfl) (by decide) (fun _ _ _ h => h) h01 rfl hHeld (Or.inl ⟨by rfl, ?_⟩) ?_
  rotate_left
  · (intro w hSw; (try dsimp only at hSw); go_simp; (try with_reducible rfl))
  try simp only [Act.put, List.setIfInBounds_toArray, List.set_cons_zero, List.set_cons_succ]
  refine wpG_takeA (i := 38) (oi := ⟨some 225, _, _, _, _, _⟩) (v := ?_) rfl (by kernel_rfl) (by kernel_rfl) (by kernel_rfl) (by decide) (fun _ _ _ h => h) h01 rfl hHeld (Or.inl ⟨by rfl, ?_⟩) ?_
  rotate_left
  · (intro w hSw; (try dsimp only at hSw); go_simp; (try with_reducible rfl))
  try simp only [Act.put, List.setIfInBounds_toArray, List.set_cons_zero, List.set_cons_succ]
  refine wpG_takeA (i := 39) (oi := ⟨some 226, _, _, _, _, _⟩) (v := ?_) rfl (by kernel_rfl) (by kernel_rfl) (by kernel_rfl) (by decide) (fun _ _ _ h => h) h01 rfl hHeld (Or.inl ⟨by rfl, ?_⟩) ?_
  rotate_left
  · (intro w hSw; (try dsimp only at hSw); go_simp; (try with_reducible rfl))
  try simp only [Act.put, List.setIfInBounds_toArray, List.set_cons_zero, List.set_cons_succ]
  refine wpG_takeA (i := 40) (oi := ⟨some 227, _, _, _, _, _⟩) (v := ?_) rfl (by kernel_rfl) (by kernel_rfl) (by kernel_rfl) (by decide) (fun _ _ _ h => h) h01 rfl hHeld (Or.inl ⟨by rfl, ?_⟩) ?_
  rotate_left
  · (intro w hSw; (try dsimp only at hSw); go_simp; (try with_reducible rfl))
  try simp only [Act.put, List.setIfInBounds_toArray, List.set_cons_zero, List.set_cons_succ]
  refine wpG_takeA (i := 41) (oi := ⟨some 228, _, _, _, _, _⟩) (v := ?_) rfl (by kernel_rfl) (by kernel_rfl) (by kernel_rfl) (by decide) (fun _ _ _ h => h) h01 rfl hHeld (Or.inl ⟨by rfl, ?_⟩) ?_
  rotate_left
  · (intro w hSw; (try dsimp only at hSw); go_simp; (try with_reducible rfl))
  try simp only [Act.put, List.setIfInBounds_toArray, List.set_cons_zero, List.set_cons_succ]
  refine wpG_takeA (i := 42) (oi := ⟨some 229, _, _, _, _, _⟩) (v := ?_) rfl (by kernel_rfl) (by kernel_rfl) (by kernel_rfl) (by decide) (fun _ _ _ h => h) h01 rfl hHeld (Or.inl ⟨by rfl, ?_⟩) ?_
  rotate_left
  · (intro w hSw; (try dsimp only at hSw); go_simp; (try with_reducible rfl))
  try simp only [Act.put, List.setIfInBounds_toArray, List.set_cons_zero, List.set_cons_succ]
  refine wpG_takeA (i := 43) (oi := ⟨some 230, _, _, _, _, _⟩) (v := ?_) rfl (by kernel_rfl) (by kernel_rfl) (by kernel_rfl) (by decide) (fun _ _ _ h => h) h01 rfl hHeld (Or.inl ⟨by rfl, ?_⟩) ?_
  rotate_left
  · (intro w hSw; (try dsimp only at hSw); go_simp; (try with_reducible rfl))
  try simp only [Act.put, List.setIfInBounds_toArray, List.set_cons_zero, List.set_cons_succ]
  refine wpG_takeA (i := 44) (oi := ⟨some 231, _, _, _, _, _⟩) (v := ?_) rfl (by kernel_rfl) (by kernel_rfl) (by kernel_rfl) (by decide) (fun _ _ _ h => h) h01 rfl hHeld (Or.inl ⟨by rfl, ?_⟩) ?_
  rotate_left
  · (intro w hSw; (try dsimp only at hSw); go_simp; (try with_reducible rfl))
  try simp only [Act.put, List.setIfInBounds_toArray, List.set_cons_zero, List.set_cons_succ]
  refine wpG_oneB (i := 45) (o := ⟨some 232, _, _, _, _, _⟩) (by kernel_rfl) rfl rfl (fun K hK => ?_)
  go_simp
  (with_reducible refine (known_any _).mono ?_); rintro e w9 ⟨rfl, b9⟩
  have KP := Lib.hid (fun (a : Addr) (v : Value) (h : wh.cell? a = some v) => (b9.cell (World.block_lt_of_cell? wh _ h)).trans h)
  have B9z := Lib.hid (Q4.out.below.trans ((below_drew (Below.refl wh.heap.size wh)).mono Q4.out.below.size |>.trans (b9.mono Q4.out.below.size)))
  clear b9
  refine hK.out _ _ ⟨KP.out _ _ CP0.out, KP.out _ _ CP1.out, KP.out _ _ CP2.out, KP.out _ _ CP3.out, KP.out _ _ CQ0.out, KP.out _ _ CQ1.out, KP.out _ _ CQ2.out, KP.out _ _ CQ3.out⟩ (fun hHeld => ?_)
  clear hK K
  try simp only [Act.put, List.setIfInBounds_toArray, List.set_cons_zero, List.set_cons_succ]
  refine wpG_takeB (i := 46) (oi := ⟨some 233, _, _, _, _, _⟩) (v := ?_) rfl (by kernel_rfl) (by kernel_rfl) (by kernel_rfl) (by decide) (fun _ _ _ h => h) h01 rfl hHeld (Or.inl ⟨by rfl, ?_⟩) ?_
  rotate_left
  · (intro w hSw; (try dsimp only at hSw); go_simp; (try with_reducible rfl))
  try simp only [Act.put, List.setIfInBounds_toArray, List.set_cons_zero, List.set_cons_succ]
  refine wpG_takeB (i := 47) (oi := ⟨some 10, _, _, _, _, _⟩) (v := ?_) rfl (by kernel_rfl) (by kernel_rfl) (by kernel_rfl) (by decide) (fun _ _ _ h => h) h01 rfl hHeld (Or.inl ⟨by rfl, ?_⟩) ?_
  rotate_left
  · (intro w hSw; (try dsimp only at hSw); go_simp; (try with_reducible rfl))
  try simp only [Act.put, List.setIfInBounds_toArray, List.set_cons_zero, List.set_cons_succ]
  refine wpG_done (by kernel_rfl) ?_ _
  clear hHeld h01
  go_wp2_with fail
  go_ret
  exact ⟨rfl, B9z.out⟩
end Go.Proofs.Ythgbnpafhkhjpaa
