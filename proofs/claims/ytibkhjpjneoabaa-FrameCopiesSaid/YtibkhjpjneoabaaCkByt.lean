/- Contracts of check.Bytes. -/
import Derived.Test.YtibkhjpjneoabaaCkBit
namespace Go.Proofs.Ytibkhjpjneoabaa.Ck
open Go.RowKit

theorem u8_ofInt {m : Int} (h0 : 0 ≤ m) (h1 : m < 256) : Value.int .u8 m = u8 (UInt8.ofNat m.toNat) := by
  show Value.int .u8 m = Value.int .u8 (((UInt8.ofNat m.toNat).toNat : Nat) : Int)
  rw [UInt8.toNat_ofNat']
  congr 1
  omega
/-- The bytes of a checksum, the high one first. -/
def bytS (k v : Int) : List UInt8 :=
  if k = 3 then [UInt8.ofNat (v / 16777216).toNat, UInt8.ofNat (v / 65536 % 256).toNat, UInt8.ofNat (v / 256 % 256).toNat, UInt8.ofNat (v % 256).toNat] else [UInt8.ofNat (v / 256).toNat, UInt8.ofNat (v % 256).toNat]
def lenS (k : Int) : Nat := if k = 3 then 4 else 2
/-- The ends of Bytes. -/
def Byted (k v : Int) (w : World) (e : Ending) (w' : World) : Prop := ∃ val, e = .returned (.tuple #[val, .int .i64 0]) ∧ w'.ownsRow w.heap.size 5 1 val (lenS k) ((bytS k v).map u8) ∧ Below w.heap.size w w'

theorem holds_at (w : World) (g o n : Nat) (xs : List Value) (hl : xs.length = n) (h : ∀ j (hj : j < xs.length), w.cell? ⟨g, o + j, none⟩ = some xs[j]) : Holds w (some ⟨g, o, none⟩) n xs :=
  ⟨by omega, fun h => (by cases h), fun b hb j u hu => by
    cases hb
    obtain ⟨hj, rfl⟩ := List.getElem?_eq_some_iff.1 hu
    rw [Addr.add_lit]
    exact h j hj⟩
theorem one_u8s (l : List UInt8) : ∀ u ∈ l.map u8, u.oneCell' = true := u8_one l

set_option maxRecDepth 100000 in
set_option maxHeartbeats 1000000 in
theorem byt_1 (v : Int) (w : World) (h0 : 0 ≤ v) (h1 : v < 65536) : Calls Try.prog 42 #[.int .i64 1, .int .i64 v] w fun e w' => Byted 1 v w e w' := by
  have c1 := of_1 w
  simp only [meth1] at c1
  have C1 := Lib.hid c1
  have hxs : [.int .u8 (v / 256), .int .u8 (v % 256)] = (bytS 1 v).map u8 := by
    simp [bytS]
    exact ⟨u8_ofInt (by omega) (by omega), u8_ofInt (by omega) (by omega)⟩
  have HX := Lib.hid hxs
  have hh : ∀ w1 : World, Holds ((w1.alloc (.cells meth1 112)).alloc (.cells #[.int .u8 (v / 16777216), .int .u8 (v / 65536), .int .u8 (v / 256), .int .u8 (v % 256)] 5)) (some ⟨w1.heap.size + 1, 2, none⟩) 2 [.int .u8 (v / 256), .int .u8 (v % 256)] := fun w1 => by
    have hb := blk_new1 w1 (.cells meth1 112) 5 #[.int .u8 (v / 16777216), .int .u8 (v / 65536), .int .u8 (v / 256), .int .u8 (v % 256)]
    have h0 := hb.cell 2
    have h1 := hb.cell 3
    skip
    skip
    refine holds_at _ _ _ _ _ rfl fun j hj => ?_
    match j, hj with
    | 0, _ => exact h0
    | 1, _ => exact h1
    | (_ + 2), h => exact absurd h (by simp)
  simp only [meth1] at hh
  have HH := Lib.hid hh
  clear c1 hxs hh
  go_enter Try.func42, Try.ntmps42
  go_wp2_with (first
    | (go_at_call 61; (with_reducible refine C1.out.mono ?_); rintro e w1 ⟨rfl, b1⟩; have B1 := Lib.hid b1; clear b1)
    | (go_at_call 39; go_must ((with_reducible refine (clone_some ⟨w1.heap.size + 1, 2, none⟩ 2 2 [.int .u8 (v / 256), .int .u8 (v % 256)] _ (by decide) (HH.out w1) (by rw [HX.out]; exact one_u8s _)).mono ?_); rintro e w2 ⟨val, rfl, ho, b2⟩; have HO := Lib.hid ho; have B2 := Lib.hid b2; clear ho b2)))
  go_ret2
  have hb0 := (B1.out.alloc B1.out.size (.cells meth1 112)).alloc (by have := B1.out.size; simp; omega) (.cells #[.int .u8 (v / 16777216), .int .u8 (v / 65536), .int .u8 (v / 256), .int .u8 (v % 256)] 5)
  refine ⟨val, rfl, ?_, hb0.trans (B2.out.mono hb0.size)⟩
  rw [← HX.out]
  exact own_base HO.out hb0.size

set_option maxRecDepth 100000 in
set_option maxHeartbeats 1000000 in
theorem byt_2 (v : Int) (w : World) (h0 : 0 ≤ v) (h1 : v < 65536) : Calls Try.prog 42 #[.int .i64 2, .int .i64 v] w fun e w' => Byted 2 v w e w' := by
  have c1 := of_2 w
  simp only [meth2] at c1
  have C1 := Lib.hid c1
  have hxs : [.int .u8 (v / 256), .int .u8 (v % 256)] = (bytS 2 v).map u8 := by
    simp [bytS]
    exact ⟨u8_ofInt (by omega) (by omega), u8_ofInt (by omega) (by omega)⟩
  have HX := Lib.hid hxs
  have hh : ∀ w1 : World, Holds ((w1.alloc (.cells meth2 112)).alloc (.cells #[.int .u8 (v / 16777216), .int .u8 (v / 65536), .int .u8 (v / 256), .int .u8 (v % 256)] 5)) (some ⟨w1.heap.size + 1, 2, none⟩) 2 [.int .u8 (v / 256), .int .u8 (v % 256)] := fun w1 => by
    have hb := blk_new1 w1 (.cells meth2 112) 5 #[.int .u8 (v / 16777216), .int .u8 (v / 65536), .int .u8 (v / 256), .int .u8 (v % 256)]
    have h0 := hb.cell 2
    have h1 := hb.cell 3
    skip
    skip
    refine holds_at _ _ _ _ _ rfl fun j hj => ?_
    match j, hj with
    | 0, _ => exact h0
    | 1, _ => exact h1
    | (_ + 2), h => exact absurd h (by simp)
  simp only [meth2] at hh
  have HH := Lib.hid hh
  clear c1 hxs hh
  go_enter Try.func42, Try.ntmps42
  go_wp2_with (first
    | (go_at_call 61; (with_reducible refine C1.out.mono ?_); rintro e w1 ⟨rfl, b1⟩; have B1 := Lib.hid b1; clear b1)
    | (go_at_call 39; go_must ((with_reducible refine (clone_some ⟨w1.heap.size + 1, 2, none⟩ 2 2 [.int .u8 (v / 256), .int .u8 (v % 256)] _ (by decide) (HH.out w1) (by rw [HX.out]; exact one_u8s _)).mono ?_); rintro e w2 ⟨val, rfl, ho, b2⟩; have HO := Lib.hid ho; have B2 := Lib.hid b2; clear ho b2)))
  go_ret2
  have hb0 := (B1.out.alloc B1.out.size (.cells meth2 112)).alloc (by have := B1.out.size; simp; omega) (.cells #[.int .u8 (v / 16777216), .int .u8 (v / 65536), .int .u8 (v / 256), .int .u8 (v % 256)] 5)
  refine ⟨val, rfl, ?_, hb0.trans (B2.out.mono hb0.size)⟩
  rw [← HX.out]
  exact own_base HO.out hb0.size

set_option maxRecDepth 100000 in
set_option maxHeartbeats 1000000 in
theorem byt_3 (v : Int) (w : World) (h0 : 0 ≤ v) (h1 : v < 4294967296) : Calls Try.prog 42 #[.int .i64 3, .int .i64 v] w fun e w' => Byted 3 v w e w' := by
  have c1 := of_3 w
  simp only [meth3] at c1
  have C1 := Lib.hid c1
  have hxs : [.int .u8 (v / 16777216), .int .u8 (v / 65536 % 256), .int .u8 (v / 256 % 256), .int .u8 (v % 256)] = (bytS 3 v).map u8 := by
    simp [bytS]
    exact ⟨u8_ofInt (by omega) (by omega), u8_ofInt (by omega) (by omega), u8_ofInt (by omega) (by omega), u8_ofInt (by omega) (by omega)⟩
  have HX := Lib.hid hxs
  have hh : ∀ w1 : World, Holds ((w1.alloc (.cells meth3 112)).alloc (.cells #[.int .u8 (v / 16777216), .int .u8 (v / 65536 % 256), .int .u8 (v / 256 % 256), .int .u8 (v % 256)] 5)) (some ⟨w1.heap.size + 1, 0, none⟩) 4 [.int .u8 (v / 16777216), .int .u8 (v / 65536 % 256), .int .u8 (v / 256 % 256), .int .u8 (v % 256)] := fun w1 => by
    have hb := blk_new1 w1 (.cells meth3 112) 5 #[.int .u8 (v / 16777216), .int .u8 (v / 65536 % 256), .int .u8 (v / 256 % 256), .int .u8 (v % 256)]
    have h0 := hb.cell 0
    have h1 := hb.cell 1
    have h2 := hb.cell 2
    have h3 := hb.cell 3
    refine holds_at _ _ _ _ _ rfl fun j hj => ?_
    match j, hj with
    | 0, _ => exact h0
    | 1, _ => exact h1
    | 2, _ => exact h2
    | 3, _ => exact h3
    | (_ + 4), h => exact absurd h (by simp)
  simp only [meth3] at hh
  have HH := Lib.hid hh
  clear c1 hxs hh
  go_enter Try.func42, Try.ntmps42
  go_wp2_with (first
    | (go_at_call 61; (with_reducible refine C1.out.mono ?_); rintro e w1 ⟨rfl, b1⟩; have B1 := Lib.hid b1; clear b1)
    | (go_at_call 39; go_must ((with_reducible refine (clone_some ⟨w1.heap.size + 1, 0, none⟩ 4 4 [.int .u8 (v / 16777216), .int .u8 (v / 65536 % 256), .int .u8 (v / 256 % 256), .int .u8 (v % 256)] _ (by decide) (HH.out w1) (by rw [HX.out]; exact one_u8s _)).mono ?_); rintro e w2 ⟨val, rfl, ho, b2⟩; have HO := Lib.hid ho; have B2 := Lib.hid b2; clear ho b2)))
  go_ret2
  have hb0 := (B1.out.alloc B1.out.size (.cells meth3 112)).alloc (by have := B1.out.size; simp; omega) (.cells #[.int .u8 (v / 16777216), .int .u8 (v / 65536 % 256), .int .u8 (v / 256 % 256), .int .u8 (v % 256)] 5)
  refine ⟨val, rfl, ?_, hb0.trans (B2.out.mono hb0.size)⟩
  rw [← HX.out]
  exact own_base HO.out hb0.size

end Go.Proofs.Ytibkhjpjneoabaa.Ck
