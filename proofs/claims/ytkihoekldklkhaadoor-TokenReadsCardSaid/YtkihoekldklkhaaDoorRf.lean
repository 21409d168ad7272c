/- Pass of a reader. -/
import Derived.Test.YtkihoekldklkhaaDoorRe
namespace Go.Proofs.YtkihoekldklkhaaDoor
open Go.RowKit
set_option linter.unusedVariables false
set_option linter.unusedSimpArgs false

theorem RdS.set {W : World} {g : Nat} {A : Option Addr} {n c : Nat} {xe ye : Int} {xs : List Value} (h : RdS W g A n c xe ye xs) {b : Nat} (hb : b ≠ g) (hA : ∀ a, A = some a → a.block ≠ b) (i : Nat) (u : Value) : RdS (W.setCell ⟨b, i, none⟩ u) g A n c xe ye xs :=
  ⟨h.b.far (by simpa using hb.symm) _, ⟨⟨h.t.h.1, h.t.h.2.1, fun a ha j x hx => by
    have hq := h.t.h.2.2 a ha j x hx
    have e : (a.add j).block = a.block := by by_cases q : j = 0 <;> simp [Addr.add, q]
    have hne := hA a ha
    unfold World.cell? at hq ⊢
    rw [Below.heap_setCell _ _ _ _ (by rw [e]; exact hne)]
    exact hq⟩, h.t.nc, h.t.cm, h.t.z⟩, h.x, h.far⟩
set_option maxRecDepth 100000 in
set_option maxHeartbeats 1000000 in
theorem pass_end (f : Value) {g : Nat} {A : Option Addr} {n c : Nat} {xe ye : Int} {xs : List Value} (w : World) (h : RdS w g A n c xe ye xs) (hn : n = 0) : Calls Tryd.prog 28 #[.pointer (some ⟨g, 0, none⟩), f] w fun e w' => e = .returned (.tuple #[.agg #[.int .i64 0, .string ⟨#[]⟩, .int .i64 0, .int .i64 0, .int .i64 0], .int .i64 9]) ∧ Below w.heap.size w w' := by
  have hb := (Below.refl w.heap.size w).alloc (Nat.le_refl _) (.cells #[.int .i64 0, .string ⟨#[]⟩, .int .i64 0, .int .i64 0, .int .i64 0] 32)
  obtain ⟨W1, hW1⟩ : ∃ W1, w.alloc (.cells #[.int .i64 0, .string ⟨#[]⟩, .int .i64 0, .int .i64 0, .int .i64 0] 32) = W1 := ⟨_, rfl⟩
  have hg : Blk W1 w.heap.size 32 #[.int .i64 0, .string ⟨#[]⟩, .int .i64 0, .int .i64 0, .int .i64 0] := hW1 ▸ Blk.new w 32 _
  rw [hW1] at hb
  have HR := Lib.hid (h.below hb)
  have HG := Lib.hid hg
  have HB := Lib.hid hb
  have HW := Lib.hid hW1
  have C9 := Lib.hid (peek_end W1 (h.below hb) hn)
  clear hb h hg hW1
  go_enter Tryd.func28, Tryd.ntmps28
  go_upto_region 1 with fail
  rw [HW.out]
  go_upto_region 3 with (go_at_call 9; (with_reducible refine C9.out.mono ?_); rintro e w2 ⟨rfl, hb2⟩; have HG2 := Lib.hid (HG.out.below hb2 HG.out.lt); have HB2 := Lib.hid (HB.out.trans (hb2.mono HB.out.size)); have HR2 := Lib.hid (HR.out.below hb2); clear hb2)
  obtain ⟨W3, hW3⟩ : ∃ W3, w2.alloc (.cells #[.int .i64 0, .string ⟨#[]⟩, .int .i64 0, .int .i64 0, .int .i64 0] 32) = W3 := ⟨_, rfl⟩
  have HG3 := Lib.hid (hW3 ▸ HG2.out.alloc (.cells #[.int .i64 0, .string ⟨#[]⟩, .int .i64 0, .int .i64 0, .int .i64 0] 32))
  have HB3 := Lib.hid (hW3 ▸ HB2.out.alloc HB2.out.size (.cells #[.int .i64 0, .string ⟨#[]⟩, .int .i64 0, .int .i64 0, .int .i64 0] 32))
  have HT3 : Hid (Blk W3 w2.heap.size 32 #[.int .i64 0, .string ⟨#[]⟩, .int .i64 0, .int .i64 0, .int .i64 0]) := Lib.hid (hW3 ▸ Blk.new w2 32 _)
  have HR3 : Hid (RdS W3 g A n c xe ye xs) := Lib.hid (HR2.out.below (hW3 ▸ (Below.refl _ w2).alloc (Nat.le_refl _) _))
  rw [hW3]
  obtain ⟨gt, hgt⟩ : ∃ gt, w2.heap.size = gt := ⟨_, rfl⟩
  rw [hgt] at HT3 ⊢
  clear hW3 hgt
  have c0 := HG3.out.cell 0
  have c1 := HG3.out.cell 1
  have c2 := HG3.out.cell 2
  have c3 := HG3.out.cell 3
  have c4 := HG3.out.cell 4
  simp only [List.getElem?_toArray, List.getElem?_cons_zero, List.getElem?_cons_succ] at c0 c1 c2 c3 c4
  have z0 := HG3.out.frozen 0
  have z1 := HG3.out.frozen 1
  have z2 := HG3.out.frozen 2
  have z3 := HG3.out.frozen 3
  have z4 := HG3.out.frozen 4
  go_wp2_with fail
  refine bodyPost_ret (resT28 _ _ _ _ _ _ _ _ _ rfl rfl (HG3.out.set5 _ _ _ _ _)) rfl ⟨rfl, below_set5 HB3.out (Nat.le_refl _) _ _ _ _ _⟩
set_option maxRecDepth 100000 in
set_option maxHeartbeats 1000000 in
theorem pass_no30 {g : Nat} {A : Option Addr} {n c : Nat} {xe ye : Int} {xs : List Value} (w : World) (h : RdS w g A n c xe ye xs) (hn : 1 ≤ n) {k v ln cl : Int} {s : ByteArray} (hx : xs.take 5 = [.int .i64 k, .string s, .int .i64 v, .int .i64 ln, .int .i64 cl]) (CB : ∀ W, Below w.heap.size w W → Calls Tryd.prog 30 (#[.agg #[.int .i64 k, .string s, .int .i64 v, .int .i64 ln, .int .i64 cl]] ++ #[]) W fun e w' => e = .returned (.bool false) ∧ Below W.heap.size W w') : Calls Tryd.prog 28 #[.pointer (some ⟨g, 0, none⟩), .func (.func 30) #[] #[]] w fun e w' => e = .returned (.tuple #[.agg #[.int .i64 0, .string ⟨#[]⟩, .int .i64 0, .int .i64 0, .int .i64 0], .int .i64 6]) ∧ Below w.heap.size w w' := by
  have hb := (Below.refl w.heap.size w).alloc (Nat.le_refl _) (.cells #[.int .i64 0, .string ⟨#[]⟩, .int .i64 0, .int .i64 0, .int .i64 0] 32)
  obtain ⟨W1, hW1⟩ : ∃ W1, w.alloc (.cells #[.int .i64 0, .string ⟨#[]⟩, .int .i64 0, .int .i64 0, .int .i64 0] 32) = W1 := ⟨_, rfl⟩
  have hg : Blk W1 w.heap.size 32 #[.int .i64 0, .string ⟨#[]⟩, .int .i64 0, .int .i64 0, .int .i64 0] := hW1 ▸ Blk.new w 32 _
  rw [hW1] at hb
  have HR := Lib.hid (h.below hb)
  have HG := Lib.hid hg
  have HB := Lib.hid hb
  have HW := Lib.hid hW1
  have C9 := Lib.hid (peek_tok W1 (h.below hb) hn hx)
  have CB := Lib.hid CB
  clear hx hn
  clear hb h hg hW1
  go_enter Tryd.func28, Tryd.ntmps28
  go_upto_region 1 with fail
  rw [HW.out]
  go_upto_region 4 with (go_at_call 9; (with_reducible refine C9.out.mono ?_); rintro e w2 ⟨rfl, hb2⟩; have HG2 := Lib.hid (HG.out.below hb2 HG.out.lt); have HB2 := Lib.hid (HB.out.trans (hb2.mono HB.out.size)); have HR2 := Lib.hid (HR.out.below hb2); clear hb2)
  obtain ⟨W3, hW3⟩ : ∃ W3, w2.alloc (.cells #[.int .i64 k, .string s, .int .i64 v, .int .i64 ln, .int .i64 cl] 32) = W3 := ⟨_, rfl⟩
  have HG3 := Lib.hid (hW3 ▸ HG2.out.alloc (.cells #[.int .i64 k, .string s, .int .i64 v, .int .i64 ln, .int .i64 cl] 32))
  have HB3 := Lib.hid (hW3 ▸ HB2.out.alloc HB2.out.size (.cells #[.int .i64 k, .string s, .int .i64 v, .int .i64 ln, .int .i64 cl] 32))
  have HT3 : Hid (Blk W3 w2.heap.size 32 #[.int .i64 k, .string s, .int .i64 v, .int .i64 ln, .int .i64 cl]) := Lib.hid (hW3 ▸ Blk.new w2 32 _)
  have HR3 : Hid (RdS W3 g A n c xe ye xs) := Lib.hid (HR2.out.below (hW3 ▸ (Below.refl _ w2).alloc (Nat.le_refl _) _))
  rw [hW3]
  obtain ⟨gt, hgt⟩ : ∃ gt, w2.heap.size = gt := ⟨_, rfl⟩
  rw [hgt] at HT3 ⊢
  clear hW3 hgt
  have t0 := HT3.out.cell 0
  have t1 := HT3.out.cell 1
  have t2 := HT3.out.cell 2
  have t3 := HT3.out.cell 3
  have t4 := HT3.out.cell 4
  simp only [List.getElem?_toArray, List.getElem?_cons_zero, List.getElem?_cons_succ] at t0 t1 t2 t3 t4
  go_upto_region 5 with (go_at_call 30; refine (CB.out _ HB3.out).mono ?_; rintro e w5 ⟨rfl, hb5⟩; have HG5 := Lib.hid (HG3.out.below hb5 HG3.out.lt); have HB5 := Lib.hid (HB3.out.trans (hb5.mono HB3.out.size)); clear hb5)
  have c0 := HG5.out.cell 0
  have c1 := HG5.out.cell 1
  have c2 := HG5.out.cell 2
  have c3 := HG5.out.cell 3
  have c4 := HG5.out.cell 4
  simp only [List.getElem?_toArray, List.getElem?_cons_zero, List.getElem?_cons_succ] at c0 c1 c2 c3 c4
  have z0 := HG5.out.frozen 0
  have z1 := HG5.out.frozen 1
  have z2 := HG5.out.frozen 2
  have z3 := HG5.out.frozen 3
  have z4 := HG5.out.frozen 4
  go_wp2_with fail
  refine bodyPost_ret (resT28 _ _ _ _ _ _ _ _ _ rfl rfl (HG5.out.set5 _ _ _ _ _)) rfl ⟨rfl, below_set5 HB5.out (Nat.le_refl _) _ _ _ _ _⟩
set_option maxRecDepth 100000 in
set_option maxHeartbeats 1000000 in
theorem pass_no31 {g : Nat} {A : Option Addr} {n c : Nat} {xe ye : Int} {xs : List Value} (w : World) (h : RdS w g A n c xe ye xs) (hn : 1 ≤ n) {k v ln cl : Int} {s : ByteArray} (hx : xs.take 5 = [.int .i64 k, .string s, .int .i64 v, .int .i64 ln, .int .i64 cl]) (CB : ∀ W, Below w.heap.size w W → Calls Tryd.prog 31 (#[.agg #[.int .i64 k, .string s, .int .i64 v, .int .i64 ln, .int .i64 cl]] ++ #[]) W fun e w' => e = .returned (.bool false) ∧ Below W.heap.size W w') : Calls Tryd.prog 28 #[.pointer (some ⟨g, 0, none⟩), .func (.func 31) #[] #[]] w fun e w' => e = .returned (.tuple #[.agg #[.int .i64 0, .string ⟨#[]⟩, .int .i64 0, .int .i64 0, .int .i64 0], .int .i64 6]) ∧ Below w.heap.size w w' := by
  have hb := (Below.refl w.heap.size w).alloc (Nat.le_refl _) (.cells #[.int .i64 0, .string ⟨#[]⟩, .int .i64 0, .int .i64 0, .int .i64 0] 32)
  obtain ⟨W1, hW1⟩ : ∃ W1, w.alloc (.cells #[.int .i64 0, .string ⟨#[]⟩, .int .i64 0, .int .i64 0, .int .i64 0] 32) = W1 := ⟨_, rfl⟩
  have hg : Blk W1 w.heap.size 32 #[.int .i64 0, .string ⟨#[]⟩, .int .i64 0, .int .i64 0, .int .i64 0] := hW1 ▸ Blk.new w 32 _
  rw [hW1] at hb
  have HR := Lib.hid (h.below hb)
  have HG := Lib.hid hg
  have HB := Lib.hid hb
  have HW := Lib.hid hW1
  have C9 := Lib.hid (peek_tok W1 (h.below hb) hn hx)
  have CB := Lib.hid CB
  clear hx hn
  clear hb h hg hW1
  go_enter Tryd.func28, Tryd.ntmps28
  go_upto_region 1 with fail
  rw [HW.out]
  go_upto_region 4 with (go_at_call 9; (with_reducible refine C9.out.mono ?_); rintro e w2 ⟨rfl, hb2⟩; have HG2 := Lib.hid (HG.out.below hb2 HG.out.lt); have HB2 := Lib.hid (HB.out.trans (hb2.mono HB.out.size)); have HR2 := Lib.hid (HR.out.below hb2); clear hb2)
  obtain ⟨W3, hW3⟩ : ∃ W3, w2.alloc (.cells #[.int .i64 k, .string s, .int .i64 v, .int .i64 ln, .int .i64 cl] 32) = W3 := ⟨_, rfl⟩
  have HG3 := Lib.hid (hW3 ▸ HG2.out.alloc (.cells #[.int .i64 k, .string s, .int .i64 v, .int .i64 ln, .int .i64 cl] 32))
  have HB3 := Lib.hid (hW3 ▸ HB2.out.alloc HB2.out.size (.cells #[.int .i64 k, .string s, .int .i64 v, .int .i64 ln, .int .i64 cl] 32))
  have HT3 : Hid (Blk W3 w2.heap.size 32 #[.int .i64 k, .string s, .int .i64 v, .int .i64 ln, .int .i64 cl]) := Lib.hid (hW3 ▸ Blk.new w2 32 _)
  have HR3 : Hid (RdS W3 g A n c xe ye xs) := Lib.hid (HR2.out.below (hW3 ▸ (Below.refl _ w2).alloc (Nat.le_refl _) _))
  rw [hW3]
  obtain ⟨gt, hgt⟩ : ∃ gt, w2.heap.size = gt := ⟨_, rfl⟩
  rw [hgt] at HT3 ⊢
  clear hW3 hgt
  have t0 := HT3.out.cell 0
  have t1 := HT3.out.cell 1
  have t2 := HT3.out.cell 2
  have t3 := HT3.out.cell 3
  have t4 := HT3.out.cell 4
  simp only [List.getElem?_toArray, List.getElem?_cons_zero, List.getElem?_cons_succ] at t0 t1 t2 t3 t4
  go_upto_region 5 with (go_at_call 31; refine (CB.out _ HB3.out).mono ?_; rintro e w5 ⟨rfl, hb5⟩; have HG5 := Lib.hid (HG3.out.below hb5 HG3.out.lt); have HB5 := Lib.hid (HB3.out.trans (hb5.mono HB3.out.size)); clear hb5)
  have c0 := HG5.out.cell 0
  have c1 := HG5.out.cell 1
  have c2 := HG5.out.cell 2
  have c3 := HG5.out.cell 3
  have c4 := HG5.out.cell 4
  simp only [List.getElem?_toArray, List.getElem?_cons_zero, List.getElem?_cons_succ] at c0 c1 c2 c3 c4
  have z0 := HG5.out.frozen 0
  have z1 := HG5.out.frozen 1
  have z2 := HG5.out.frozen 2
  have z3 := HG5.out.frozen 3
  have z4 := HG5.out.frozen 4
  go_wp2_with fail
  refine bodyPost_ret (resT28 _ _ _ _ _ _ _ _ _ rfl rfl (HG5.out.set5 _ _ _ _ _)) rfl ⟨rfl, below_set5 HB5.out (Nat.le_refl _) _ _ _ _ _⟩
set_option maxRecDepth 100000 in
set_option maxHeartbeats 1000000 in
theorem pass_no34 {g : Nat} {A : Option Addr} {n c : Nat} {xe ye : Int} {xs : List Value} (w : World) (h : RdS w g A n c xe ye xs) (hn : 1 ≤ n) {k v ln cl : Int} {s : ByteArray} (hx : xs.take 5 = [.int .i64 k, .string s, .int .i64 v, .int .i64 ln, .int .i64 cl]) (gq : Nat) (CB : ∀ W, Below w.heap.size w W → Calls Tryd.prog 34 (#[.agg #[.int .i64 k, .string s, .int .i64 v, .int .i64 ln, .int .i64 cl]] ++ #[.pointer (some ⟨gq, 0, none⟩)]) W fun e w' => e = .returned (.bool false) ∧ Below W.heap.size W w') : Calls Tryd.prog 28 #[.pointer (some ⟨g, 0, none⟩), .func (.func 34) #[] #[.pointer (some ⟨gq, 0, none⟩)]] w fun e w' => e = .returned (.tuple #[.agg #[.int .i64 0, .string ⟨#[]⟩, .int .i64 0, .int .i64 0, .int .i64 0], .int .i64 6]) ∧ Below w.heap.size w w' := by
  have hb := (Below.refl w.heap.size w).alloc (Nat.le_refl _) (.cells #[.int .i64 0, .string ⟨#[]⟩, .int .i64 0, .int .i64 0, .int .i64 0] 32)
  obtain ⟨W1, hW1⟩ : ∃ W1, w.alloc (.cells #[.int .i64 0, .string ⟨#[]⟩, .int .i64 0, .int .i64 0, .int .i64 0] 32) = W1 := ⟨_, rfl⟩
  have hg : Blk W1 w.heap.size 32 #[.int .i64 0, .string ⟨#[]⟩, .int .i64 0, .int .i64 0, .int .i64 0] := hW1 ▸ Blk.new w 32 _
  rw [hW1] at hb
  have HR := Lib.hid (h.below hb)
  have HG := Lib.hid hg
  have HB := Lib.hid hb
  have HW := Lib.hid hW1
  have C9 := Lib.hid (peek_tok W1 (h.below hb) hn hx)
  have CB := Lib.hid CB
  clear hx hn
  clear hb h hg hW1
  go_enter Tryd.func28, Tryd.ntmps28
  go_upto_region 1 with fail
  rw [HW.out]
  go_upto_region 4 with (go_at_call 9; (with_reducible refine C9.out.mono ?_); rintro e w2 ⟨rfl, hb2⟩; have HG2 := Lib.hid (HG.out.below hb2 HG.out.lt); have HB2 := Lib.hid (HB.out.trans (hb2.mono HB.out.size)); have HR2 := Lib.hid (HR.out.below hb2); clear hb2)
  obtain ⟨W3, hW3⟩ : ∃ W3, w2.alloc (.cells #[.int .i64 k, .string s, .int .i64 v, .int .i64 ln, .int .i64 cl] 32) = W3 := ⟨_, rfl⟩
  have HG3 := Lib.hid (hW3 ▸ HG2.out.alloc (.cells #[.int .i64 k, .string s, .int .i64 v, .int .i64 ln, .int .i64 cl] 32))
  have HB3 := Lib.hid (hW3 ▸ HB2.out.alloc HB2.out.size (.cells #[.int .i64 k, .string s, .int .i64 v, .int .i64 ln, .int .i64 cl] 32))
  have HT3 : Hid (Blk W3 w2.heap.size 32 #[.int .i64 k, .string s, .int .i64 v, .int .i64 ln, .int .i64 cl]) := Lib.hid (hW3 ▸ Blk.new w2 32 _)
  have HR3 : Hid (RdS W3 g A n c xe ye xs) := Lib.hid (HR2.out.below (hW3 ▸ (Below.refl _ w2).alloc (Nat.le_refl _) _))
  rw [hW3]
  obtain ⟨gt, hgt⟩ : ∃ gt, w2.heap.size = gt := ⟨_, rfl⟩
  rw [hgt] at HT3 ⊢
  clear hW3 hgt
  have t0 := HT3.out.cell 0
  have t1 := HT3.out.cell 1
  have t2 := HT3.out.cell 2
  have t3 := HT3.out.cell 3
  have t4 := HT3.out.cell 4
  simp only [List.getElem?_toArray, List.getElem?_cons_zero, List.getElem?_cons_succ] at t0 t1 t2 t3 t4
  go_upto_region 5 with (go_at_call 34; refine (CB.out _ HB3.out).mono ?_; rintro e w5 ⟨rfl, hb5⟩; have HG5 := Lib.hid (HG3.out.below hb5 HG3.out.lt); have HB5 := Lib.hid (HB3.out.trans (hb5.mono HB3.out.size)); clear hb5)
  have c0 := HG5.out.cell 0
  have c1 := HG5.out.cell 1
  have c2 := HG5.out.cell 2
  have c3 := HG5.out.cell 3
  have c4 := HG5.out.cell 4
  simp only [List.getElem?_toArray, List.getElem?_cons_zero, List.getElem?_cons_succ] at c0 c1 c2 c3 c4
  have z0 := HG5.out.frozen 0
  have z1 := HG5.out.frozen 1
  have z2 := HG5.out.frozen 2
  have z3 := HG5.out.frozen 3
  have z4 := HG5.out.frozen 4
  go_wp2_with fail
  refine bodyPost_ret (resT28 _ _ _ _ _ _ _ _ _ rfl rfl (HG5.out.set5 _ _ _ _ _)) rfl ⟨rfl, below_set5 HB5.out (Nat.le_refl _) _ _ _ _ _⟩
set_option maxRecDepth 100000 in
set_option maxHeartbeats 1000000 in
theorem pass_yes29 {g : Nat} {A : Option Addr} {n c : Nat} {xe ye : Int} {xs : List Value} (w : World) (h : RdS w g A n c xe ye xs) (hn : 1 ≤ n) {k v ln cl : Int} {s : ByteArray} (hx : xs.take 5 = [.int .i64 k, .string s, .int .i64 v, .int .i64 ln, .int .i64 cl]) (CB : ∀ W, Below w.heap.size w W → Calls Tryd.prog 29 (#[.agg #[.int .i64 k, .string s, .int .i64 v, .int .i64 ln, .int .i64 cl]] ++ #[]) W fun e w' => e = .returned (.bool true) ∧ Below W.heap.size W w') : Calls Tryd.prog 28 #[.pointer (some ⟨g, 0, none⟩), .func (.func 29) #[] #[]] w fun e w' => ∃ A', e = .returned (.tuple #[.agg #[.int .i64 k, .string s, .int .i64 v, .int .i64 ln, .int .i64 cl], .int .i64 0]) ∧ Only (fun q => q = g) w w' ∧ RdS w' g A' (n - 1) (c - 1) xe ye (xs.drop 5) ∧ ∀ b, A' = some b → ∃ a, A = some a ∧ b.block = a.block := by
  have HN := Lib.hid hn
  have HGL := Lib.hid h.b.lt
  have HAL : Hid (∀ a, A = some a → a.block < w.heap.size) := Lib.hid (fun a ha => by
    have h9 := h.t.h.2.2 a ha 0 (.int .i64 k) (by have : (xs.take 5)[0]? = some (.int .i64 k) := by rw [hx]; rfl
                                                  rwa [List.getElem?_take_of_lt (by omega)] at this)
    have := World.block_lt_of_cell? _ _ h9
    simpa [Addr.add] using this)
  have hb := (Below.refl w.heap.size w).alloc (Nat.le_refl _) (.cells #[.int .i64 0, .string ⟨#[]⟩, .int .i64 0, .int .i64 0, .int .i64 0] 32)
  obtain ⟨W1, hW1⟩ : ∃ W1, w.alloc (.cells #[.int .i64 0, .string ⟨#[]⟩, .int .i64 0, .int .i64 0, .int .i64 0] 32) = W1 := ⟨_, rfl⟩
  have hg : Blk W1 w.heap.size 32 #[.int .i64 0, .string ⟨#[]⟩, .int .i64 0, .int .i64 0, .int .i64 0] := hW1 ▸ Blk.new w 32 _
  rw [hW1] at hb
  have HR := Lib.hid (h.below hb)
  have HG := Lib.hid hg
  have HB := Lib.hid hb
  have HW := Lib.hid hW1
  have C9 := Lib.hid (peek_tok W1 (h.below hb) hn hx)
  have CB := Lib.hid CB
  clear hx hn
  clear hb h hg hW1
  go_enter Tryd.func28, Tryd.ntmps28
  go_upto_region 1 with fail
  rw [HW.out]
  go_upto_region 4 with (go_at_call 9; (with_reducible refine C9.out.mono ?_); rintro e w2 ⟨rfl, hb2⟩; have HG2 := Lib.hid (HG.out.below hb2 HG.out.lt); have HB2 := Lib.hid (HB.out.trans (hb2.mono HB.out.size)); have HR2 := Lib.hid (HR.out.below hb2); clear hb2)
  obtain ⟨W3, hW3⟩ : ∃ W3, w2.alloc (.cells #[.int .i64 k, .string s, .int .i64 v, .int .i64 ln, .int .i64 cl] 32) = W3 := ⟨_, rfl⟩
  have HG3 := Lib.hid (hW3 ▸ HG2.out.alloc (.cells #[.int .i64 k, .string s, .int .i64 v, .int .i64 ln, .int .i64 cl] 32))
  have HB3 := Lib.hid (hW3 ▸ HB2.out.alloc HB2.out.size (.cells #[.int .i64 k, .string s, .int .i64 v, .int .i64 ln, .int .i64 cl] 32))
  have HT3 : Hid (Blk W3 w2.heap.size 32 #[.int .i64 k, .string s, .int .i64 v, .int .i64 ln, .int .i64 cl]) := Lib.hid (hW3 ▸ Blk.new w2 32 _)
  have HR3 : Hid (RdS W3 g A n c xe ye xs) := Lib.hid (HR2.out.below (hW3 ▸ (Below.refl _ w2).alloc (Nat.le_refl _) _))
  rw [hW3]
  obtain ⟨gt, hgt⟩ : ∃ gt, w2.heap.size = gt := ⟨_, rfl⟩
  rw [hgt] at HT3 ⊢
  clear hW3 hgt
  have t0 := HT3.out.cell 0
  have t1 := HT3.out.cell 1
  have t2 := HT3.out.cell 2
  have t3 := HT3.out.cell 3
  have t4 := HT3.out.cell 4
  simp only [List.getElem?_toArray, List.getElem?_cons_zero, List.getElem?_cons_succ] at t0 t1 t2 t3 t4
  go_upto_region 6 with (go_at_call 29; refine (CB.out _ HB3.out).mono ?_; rintro e w5 ⟨rfl, hb5⟩; have HG5 := Lib.hid (HG3.out.below hb5 HG3.out.lt); have HB5 := Lib.hid (HB3.out.trans (hb5.mono HB3.out.size)); have HR5 := Lib.hid (HR3.out.below hb5); have HT5 := Lib.hid (HT3.out.below hb5 HT3.out.lt); clear hb5)
  clear t0 t1 t2 t3 t4
  obtain ⟨A', hrun, hts, hblk⟩ := tail24 w5 A n c xs HR5.out.t HN.out
  have HTS := Lib.hid hts
  have HBK := Lib.hid hblk
  have e0 := HR5.out.b.cell 0
  have z9 := HR5.out.b.frozen 0
  simp only [List.getElem?_toArray, List.getElem?_cons_zero] at e0
  clear hts hblk
  go_upto_region 7 with fail
  have hgt : gt ≠ g := Blk.ne HT5.out HR5.out.b (by decide)
  have hgr : w.heap.size ≠ g := by have := HGL.out; omega
  obtain ⟨W6, hW6⟩ : ∃ W6, w5.setCell ⟨g, 0, none⟩ (.slice A' (n - 1) (c - 1)) = W6 := ⟨_, rfl⟩
  have HT6 : Hid (Blk W6 gt 32 #[.int .i64 k, .string s, .int .i64 v, .int .i64 ln, .int .i64 cl]) := Lib.hid (hW6 ▸ HT5.out.far (by simpa using hgt) _)
  have HG6 : Hid (Blk W6 w.heap.size 32 #[.int .i64 0, .string ⟨#[]⟩, .int .i64 0, .int .i64 0, .int .i64 0]) := Lib.hid (hW6 ▸ HG5.out.far (by simpa using hgr) _)
  have HO6 : Hid (Only (fun q => q = g) w W6) := Lib.hid (by rw [← hW6]; exact (Only.of_below (p := fun q => q = g) HB5.out).set (g := g) (fun _ => rfl) 0 _)
  have HR6 : Hid (RdS W6 g A' (n - 1) (c - 1) xe ye (xs.drop 5)) := Lib.hid ⟨hW6 ▸ by have := HR5.out.b.set_ 0 (.slice A' (n - 1) (c - 1)); simpa using this, ⟨⟨HTS.out.h.1, HTS.out.h.2.1, fun b hb j x hx => by
      have hq := HTS.out.h.2.2 b hb j x hx
      have e : (b.add j).block = b.block := by by_cases q : j = 0 <;> simp [Addr.add, q]
      obtain ⟨a, ha, e2⟩ := HBK.out b hb
      have hne := HR5.out.far a ha
      rw [← hW6]
      unfold World.cell? at hq ⊢
      rw [Below.heap_setCell _ _ _ _ (by rw [e, e2]; exact hne)]
      exact hq⟩, HTS.out.nc, HTS.out.cm, HTS.out.z⟩, HR5.out.x, fun b hb => by obtain ⟨a, ha, e⟩ := HBK.out b hb; rw [e]; exact HR5.out.far a ha⟩
  have HGR := Lib.hid hgr
  rw [hW6]
  clear hW6 hgt hgr e0 z9 hrun
  have t0 := HT6.out.cell 0
  have t1 := HT6.out.cell 1
  have t2 := HT6.out.cell 2
  have t3 := HT6.out.cell 3
  have t4 := HT6.out.cell 4
  simp only [List.getElem?_toArray, List.getElem?_cons_zero, List.getElem?_cons_succ] at t0 t1 t2 t3 t4
  have c0 := HG6.out.cell 0
  have c1 := HG6.out.cell 1
  have c2 := HG6.out.cell 2
  have c3 := HG6.out.cell 3
  have c4 := HG6.out.cell 4
  simp only [List.getElem?_toArray, List.getElem?_cons_zero, List.getElem?_cons_succ] at c0 c1 c2 c3 c4
  have z0 := HG6.out.frozen 0
  have z1 := HG6.out.frozen 1
  have z2 := HG6.out.frozen 2
  have z3 := HG6.out.frozen 3
  have z4 := HG6.out.frozen 4
  go_wp2_with fail
  have hA' : ∀ b, A' = some b → b.block ≠ w.heap.size := fun b hb => by
    obtain ⟨a, ha, e⟩ := HBK.out b hb
    have := HAL.out a ha
    omega
  have ho : w.heap.size < w.heap.size → w.heap.size = g := fun h => absurd h (Nat.lt_irrefl _)
  refine bodyPost_ret (resT28 _ _ _ _ _ _ _ _ _ rfl rfl (HG6.out.set5 _ _ _ _ _)) rfl ⟨A', rfl, ((((HO6.out.set ho _ _).set ho _ _).set ho _ _).set ho _ _).set ho _ _, ((((HR6.out.set HGR.out hA' _ _).set HGR.out hA' _ _).set HGR.out hA' _ _).set HGR.out hA' _ _).set HGR.out hA' _ _, HBK.out⟩
set_option maxRecDepth 100000 in
set_option maxHeartbeats 1000000 in
theorem pass_yes30 {g : Nat} {A : Option Addr} {n c : Nat} {xe ye : Int} {xs : List Value} (w : World) (h : RdS w g A n c xe ye xs) (hn : 1 ≤ n) {k v ln cl : Int} {s : ByteArray} (hx : xs.take 5 = [.int .i64 k, .string s, .int .i64 v, .int .i64 ln, .int .i64 cl]) (CB : ∀ W, Below w.heap.size w W → Calls Tryd.prog 30 (#[.agg #[.int .i64 k, .string s, .int .i64 v, .int .i64 ln, .int .i64 cl]] ++ #[]) W fun e w' => e = .returned (.bool true) ∧ Below W.heap.size W w') : Calls Tryd.prog 28 #[.pointer (some ⟨g, 0, none⟩), .func (.func 30) #[] #[]] w fun e w' => ∃ A', e = .returned (.tuple #[.agg #[.int .i64 k, .string s, .int .i64 v, .int .i64 ln, .int .i64 cl], .int .i64 0]) ∧ Only (fun q => q = g) w w' ∧ RdS w' g A' (n - 1) (c - 1) xe ye (xs.drop 5) ∧ ∀ b, A' = some b → ∃ a, A = some a ∧ b.block = a.block := by
  have HN := Lib.hid hn
  have HGL := Lib.hid h.b.lt
  have HAL : Hid (∀ a, A = some a → a.block < w.heap.size) := Lib.hid (fun a ha => by
    have h9 := h.t.h.2.2 a ha 0 (.int .i64 k) (by have : (xs.take 5)[0]? = some (.int .i64 k) := by rw [hx]; rfl
                                                  rwa [List.getElem?_take_of_lt (by omega)] at this)
    have := World.block_lt_of_cell? _ _ h9
    simpa [Addr.add] using this)
  have hb := (Below.refl w.heap.size w).alloc (Nat.le_refl _) (.cells #[.int .i64 0, .string ⟨#[]⟩, .int .i64 0, .int .i64 0, .int .i64 0] 32)
  obtain ⟨W1, hW1⟩ : ∃ W1, w.alloc (.cells #[.int .i64 0, .string ⟨#[]⟩, .int .i64 0, .int .i64 0, .int .i64 0] 32) = W1 := ⟨_, rfl⟩
  have hg : Blk W1 w.heap.size 32 #[.int .i64 0, .string ⟨#[]⟩, .int .i64 0, .int .i64 0, .int .i64 0] := hW1 ▸ Blk.new w 32 _
  rw [hW1] at hb
  have HR := Lib.hid (h.below hb)
  have HG := Lib.hid hg
  have HB := Lib.hid hb
  have HW := Lib.hid hW1
  have C9 := Lib.hid (peek_tok W1 (h.below hb) hn hx)
  have CB := Lib.hid CB
  clear hx hn
  clear hb h hg hW1
  go_enter Tryd.func28, Tryd.ntmps28
  go_upto_region 1 with fail
  rw [HW.out]
  go_upto_region 4 with (go_at_call 9; (with_reducible refine C9.out.mono ?_); rintro e w2 ⟨rfl, hb2⟩; have HG2 := Lib.hid (HG.out.below hb2 HG.out.lt); have HB2 := Lib.hid (HB.out.trans (hb2.mono HB.out.size)); have HR2 := Lib.hid (HR.out.below hb2); clear hb2)
  obtain ⟨W3, hW3⟩ : ∃ W3, w2.alloc (.cells #[.int .i64 k, .string s, .int .i64 v, .int .i64 ln, .int .i64 cl] 32) = W3 := ⟨_, rfl⟩
  have HG3 := Lib.hid (hW3 ▸ HG2.out.alloc (.cells #[.int .i64 k, .string s, .int .i64 v, .int .i64 ln, .int .i64 cl] 32))
  have HB3 := Lib.hid (hW3 ▸ HB2.out.alloc HB2.out.size (.cells #[.int .i64 k, .string s, .int .i64 v, .int .i64 ln, .int .i64 cl] 32))
  have HT3 : Hid (Blk W3 w2.heap.size 32 #[.int .i64 k, .string s, .int .i64 v, .int .i64 ln, .int .i64 cl]) := Lib.hid (hW3 ▸ Blk.new w2 32 _)
  have HR3 : Hid (RdS W3 g A n c xe ye xs) := Lib.hid (HR2.out.below (hW3 ▸ (Below.refl _ w2).alloc (Nat.le_refl _) _))
  rw [hW3]
  obtain ⟨gt, hgt⟩ : ∃ gt, w2.heap.size = gt := ⟨_, rfl⟩
  rw [hgt] at HT3 ⊢
  clear hW3 hgt
  have t0 := HT3.out.cell 0
  have t1 := HT3.out.cell 1
  have t2 := HT3.out.cell 2
  have t3 := HT3.out.cell 3
  have t4 := HT3.out.cell 4
  simp only [List.getElem?_toArray, List.getElem?_cons_zero, List.getElem?_cons_succ] at t0 t1 t2 t3 t4
  go_upto_region 6 with (go_at_call 30; refine (CB.out _ HB3.out).mono ?_; rintro e w5 ⟨rfl, hb5⟩; have HG5 := Lib.hid (HG3.out.below hb5 HG3.out.lt); have HB5 := Lib.hid (HB3.out.trans (hb5.mono HB3.out.size)); have HR5 := Lib.hid (HR3.out.below hb5); have HT5 := Lib.hid (HT3.out.below hb5 HT3.out.lt); clear hb5)
  clear t0 t1 t2 t3 t4
  obtain ⟨A', hrun, hts, hblk⟩ := tail24 w5 A n c xs HR5.out.t HN.out
  have HTS := Lib.hid hts
  have HBK := Lib.hid hblk
  have e0 := HR5.out.b.cell 0
  have z9 := HR5.out.b.frozen 0
  simp only [List.getElem?_toArray, List.getElem?_cons_zero] at e0
  clear hts hblk
  go_upto_region 7 with fail
  have hgt : gt ≠ g := Blk.ne HT5.out HR5.out.b (by decide)
  have hgr : w.heap.size ≠ g := by have := HGL.out; omega
  obtain ⟨W6, hW6⟩ : ∃ W6, w5.setCell ⟨g, 0, none⟩ (.slice A' (n - 1) (c - 1)) = W6 := ⟨_, rfl⟩
  have HT6 : Hid (Blk W6 gt 32 #[.int .i64 k, .string s, .int .i64 v, .int .i64 ln, .int .i64 cl]) := Lib.hid (hW6 ▸ HT5.out.far (by simpa using hgt) _)
  have HG6 : Hid (Blk W6 w.heap.size 32 #[.int .i64 0, .string ⟨#[]⟩, .int .i64 0, .int .i64 0, .int .i64 0]) := Lib.hid (hW6 ▸ HG5.out.far (by simpa using hgr) _)
  have HO6 : Hid (Only (fun q => q = g) w W6) := Lib.hid (by rw [← hW6]; exact (Only.of_below (p := fun q => q = g) HB5.out).set (g := g) (fun _ => rfl) 0 _)
  have HR6 : Hid (RdS W6 g A' (n - 1) (c - 1) xe ye (xs.drop 5)) := Lib.hid ⟨hW6 ▸ by have := HR5.out.b.set_ 0 (.slice A' (n - 1) (c - 1)); simpa using this, ⟨⟨HTS.out.h.1, HTS.out.h.2.1, fun b hb j x hx => by
      have hq := HTS.out.h.2.2 b hb j x hx
      have e : (b.add j).block = b.block := by by_cases q : j = 0 <;> simp [Addr.add, q]
      obtain ⟨a, ha, e2⟩ := HBK.out b hb
      have hne := HR5.out.far a ha
      rw [← hW6]
      unfold World.cell? at hq ⊢
      rw [Below.heap_setCell _ _ _ _ (by rw [e, e2]; exact hne)]
      exact hq⟩, HTS.out.nc, HTS.out.cm, HTS.out.z⟩, HR5.out.x, fun b hb => by obtain ⟨a, ha, e⟩ := HBK.out b hb; rw [e]; exact HR5.out.far a ha⟩
  have HGR := Lib.hid hgr
  rw [hW6]
  clear hW6 hgt hgr e0 z9 hrun
  have t0 := HT6.out.cell 0
  have t1 := HT6.out.cell 1
  have t2 := HT6.out.cell 2
  have t3 := HT6.out.cell 3
  have t4 := HT6.out.cell 4
  simp only [List.getElem?_toArray, List.getElem?_cons_zero, List.getElem?_cons_succ] at t0 t1 t2 t3 t4
  have c0 := HG6.out.cell 0
  have c1 := HG6.out.cell 1
  have c2 := HG6.out.cell 2
  have c3 := HG6.out.cell 3
  have c4 := HG6.out.cell 4
  simp only [List.getElem?_toArray, List.getElem?_cons_zero, List.getElem?_cons_succ] at c0 c1 c2 c3 c4
  have z0 := HG6.out.frozen 0
  have z1 := HG6.out.frozen 1
  have z2 := HG6.out.frozen 2
  have z3 := HG6.out.frozen 3
  have z4 := HG6.out.frozen 4
  go_wp2_with fail
  have hA' : ∀ b, A' = some b → b.block ≠ w.heap.size := fun b hb => by
    obtain ⟨a, ha, e⟩ := HBK.out b hb
    have := HAL.out a ha
    omega
  have ho : w.heap.size < w.heap.size → w.heap.size = g := fun h => absurd h (Nat.lt_irrefl _)
  refine bodyPost_ret (resT28 _ _ _ _ _ _ _ _ _ rfl rfl (HG6.out.set5 _ _ _ _ _)) rfl ⟨A', rfl, ((((HO6.out.set ho _ _).set ho _ _).set ho _ _).set ho _ _).set ho _ _, ((((HR6.out.set HGR.out hA' _ _).set HGR.out hA' _ _).set HGR.out hA' _ _).set HGR.out hA' _ _).set HGR.out hA' _ _, HBK.out⟩
set_option maxRecDepth 100000 in
set_option maxHeartbeats 1000000 in
theorem pass_yes31 {g : Nat} {A : Option Addr} {n c : Nat} {xe ye : Int} {xs : List Value} (w : World) (h : RdS w g A n c xe ye xs) (hn : 1 ≤ n) {k v ln cl : Int} {s : ByteArray} (hx : xs.take 5 = [.int .i64 k, .string s, .int .i64 v, .int .i64 ln, .int .i64 cl]) (CB : ∀ W, Below w.heap.size w W → Calls Tryd.prog 31 (#[.agg #[.int .i64 k, .string s, .int .i64 v, .int .i64 ln, .int .i64 cl]] ++ #[]) W fun e w' => e = .returned (.bool true) ∧ Below W.heap.size W w') : Calls Tryd.prog 28 #[.pointer (some ⟨g, 0, none⟩), .func (.func 31) #[] #[]] w fun e w' => ∃ A', e = .returned (.tuple #[.agg #[.int .i64 k, .string s, .int .i64 v, .int .i64 ln, .int .i64 cl], .int .i64 0]) ∧ Only (fun q => q = g) w w' ∧ RdS w' g A' (n - 1) (c - 1) xe ye (xs.drop 5) ∧ ∀ b, A' = some b → ∃ a, A = some a ∧ b.block = a.block := by
  have HN := Lib.hid hn
  have HGL := Lib.hid h.b.lt
  have HAL : Hid (∀ a, A = some a → a.block < w.heap.size) := Lib.hid (fun a ha => by
    have h9 := h.t.h.2.2 a ha 0 (.int .i64 k) (by have : (xs.take 5)[0]? = some (.int .i64 k) := by rw [hx]; rfl
                                                  rwa [List.getElem?_take_of_lt (by omega)] at this)
    have := World.block_lt_of_cell? _ _ h9
    simpa [Addr.add] using this)
  have hb := (Below.refl w.heap.size w).alloc (Nat.le_refl _) (.cells #[.int .i64 0, .string ⟨#[]⟩, .int .i64 0, .int .i64 0, .int .i64 0] 32)
  obtain ⟨W1, hW1⟩ : ∃ W1, w.alloc (.cells #[.int .i64 0, .string ⟨#[]⟩, .int .i64 0, .int .i64 0, .int .i64 0] 32) = W1 := ⟨_, rfl⟩
  have hg : Blk W1 w.heap.size 32 #[.int .i64 0, .string ⟨#[]⟩, .int .i64 0, .int .i64 0, .int .i64 0] := hW1 ▸ Blk.new w 32 _
  rw [hW1] at hb
  have HR := Lib.hid (h.below hb)
  have HG := Lib.hid hg
  have HB := Lib.hid hb
  have HW := Lib.hid hW1
  have C9 := Lib.hid (peek_tok W1 (h.below hb) hn hx)
  have CB := Lib.hid CB
  clear hx hn
  clear hb h hg hW1
  go_enter Tryd.func28, Tryd.ntmps28
  go_upto_region 1 with fail
  rw [HW.out]
  go_upto_region 4 with (go_at_call 9; (with_reducible refine C9.out.mono ?_); rintro e w2 ⟨rfl, hb2⟩; have HG2 := Lib.hid (HG.out.below hb2 HG.out.lt); have HB2 := Lib.hid (HB.out.trans (hb2.mono HB.out.size)); have HR2 := Lib.hid (HR.out.below hb2); clear hb2)
  obtain ⟨W3, hW3⟩ : ∃ W3, w2.alloc (.cells #[.int .i64 k, .string s, .int .i64 v, .int .i64 ln, .int .i64 cl] 32) = W3 := ⟨_, rfl⟩
  have HG3 := Lib.hid (hW3 ▸ HG2.out.alloc (.cells #[.int .i64 k, .string s, .int .i64 v, .int .i64 ln, .int .i64 cl] 32))
  have HB3 := Lib.hid (hW3 ▸ HB2.out.alloc HB2.out.size (.cells #[.int .i64 k, .string s, .int .i64 v, .int .i64 ln, .int .i64 cl] 32))
  have HT3 : Hid (Blk W3 w2.heap.size 32 #[.int .i64 k, .string s, .int .i64 v, .int .i64 ln, .int .i64 cl]) := Lib.hid (hW3 ▸ Blk.new w2 32 _)
  have HR3 : Hid (RdS W3 g A n c xe ye xs) := Lib.hid (HR2.out.below (hW3 ▸ (Below.refl _ w2).alloc (Nat.le_refl _) _))
  rw [hW3]
  obtain ⟨gt, hgt⟩ : ∃ gt, w2.heap.size = gt := ⟨_, rfl⟩
  rw [hgt] at HT3 ⊢
  clear hW3 hgt
  have t0 := HT3.out.cell 0
  have t1 := HT3.out.cell 1
  have t2 := HT3.out.cell 2
  have t3 := HT3.out.cell 3
  have t4 := HT3.out.cell 4
  simp only [List.getElem?_toArray, List.getElem?_cons_zero, List.getElem?_cons_succ] at t0 t1 t2 t3 t4
  go_upto_region 6 with (go_at_call 31; refine (CB.out _ HB3.out).mono ?_; rintro e w5 ⟨rfl, hb5⟩; have HG5 := Lib.hid (HG3.out.below hb5 HG3.out.lt); have HB5 := Lib.hid (HB3.out.trans (hb5.mono HB3.out.size)); have HR5 := Lib.hid (HR3.out.below hb5); have HT5 := Lib.hid (HT3.out.below hb5 HT3.out.lt); clear hb5)
  clear t0 t1 t2 t3 t4
  obtain ⟨A', hrun, hts, hblk⟩ := tail24 w5 A n c xs HR5.out.t HN.out
  have HTS := Lib.hid hts
  have HBK := Lib.hid hblk
  have e0 := HR5.out.b.cell 0
  have z9 := HR5.out.b.frozen 0
  simp only [List.getElem?_toArray, List.getElem?_cons_zero] at e0
  clear hts hblk
  go_upto_region 7 with fail
  have hgt : gt ≠ g := Blk.ne HT5.out HR5.out.b (by decide)
  have hgr : w.heap.size ≠ g := by have := HGL.out; omega
  obtain ⟨W6, hW6⟩ : ∃ W6, w5.setCell ⟨g, 0, none⟩ (.slice A' (n - 1) (c - 1)) = W6 := ⟨_, rfl⟩
  have HT6 : Hid (Blk W6 gt 32 #[.int .i64 k, .string s, .int .i64 v, .int .i64 ln, .int .i64 cl]) := Lib.hid (hW6 ▸ HT5.out.far (by simpa using hgt) _)
  have HG6 : Hid (Blk W6 w.heap.size 32 #[.int .i64 0, .string ⟨#[]⟩, .int .i64 0, .int .i64 0, .int .i64 0]) := Lib.hid (hW6 ▸ HG5.out.far (by simpa using hgr) _)
  have HO6 : Hid (Only (fun q => q = g) w W6) := Lib.hid (by rw [← hW6]; exact (Only.of_below (p := fun q => q = g) HB5.out).set (g := g) (fun _ => rfl) 0 _)
  have HR6 : Hid (RdS W6 g A' (n - 1) (c - 1) xe ye (xs.drop 5)) := Lib.hid ⟨hW6 ▸ by have := HR5.out.b.set_ 0 (.slice A' (n - 1) (c - 1)); simpa using this, ⟨⟨HTS.out.h.1, HTS.out.h.2.1, fun b hb j x hx => by
      have hq := HTS.out.h.2.2 b hb j x hx
      have e : (b.add j).block = b.block := by by_cases q : j = 0 <;> simp [Addr.add, q]
      obtain ⟨a, ha, e2⟩ := HBK.out b hb
      have hne := HR5.out.far a ha
      rw [← hW6]
      unfold World.cell? at hq ⊢
      rw [Below.heap_setCell _ _ _ _ (by rw [e, e2]; exact hne)]
      exact hq⟩, HTS.out.nc, HTS.out.cm, HTS.out.z⟩, HR5.out.x, fun b hb => by obtain ⟨a, ha, e⟩ := HBK.out b hb; rw [e]; exact HR5.out.far a ha⟩
  have HGR := Lib.hid hgr
  rw [hW6]
  clear hW6 hgt hgr e0 z9 hrun
  have t0 := HT6.out.cell 0
  have t1 := HT6.out.cell 1
  have t2 := HT6.out.cell 2
  have t3 := HT6.out.cell 3
  have t4 := HT6.out.cell 4
  simp only [List.getElem?_toArray, List.getElem?_cons_zero, List.getElem?_cons_succ] at t0 t1 t2 t3 t4
  have c0 := HG6.out.cell 0
  have c1 := HG6.out.cell 1
  have c2 := HG6.out.cell 2
  have c3 := HG6.out.cell 3
  have c4 := HG6.out.cell 4
  simp only [List.getElem?_toArray, List.getElem?_cons_zero, List.getElem?_cons_succ] at c0 c1 c2 c3 c4
  have z0 := HG6.out.frozen 0
  have z1 := HG6.out.frozen 1
  have z2 := HG6.out.frozen 2
  have z3 := HG6.out.frozen 3
  have z4 := HG6.out.frozen 4
  go_wp2_with fail
  have hA' : ∀ b, A' = some b → b.block ≠ w.heap.size := fun b hb => by
    obtain ⟨a, ha, e⟩ := HBK.out b hb
    have := HAL.out a ha
    omega
  have ho : w.heap.size < w.heap.size → w.heap.size = g := fun h => absurd h (Nat.lt_irrefl _)
  refine bodyPost_ret (resT28 _ _ _ _ _ _ _ _ _ rfl rfl (HG6.out.set5 _ _ _ _ _)) rfl ⟨A', rfl, ((((HO6.out.set ho _ _).set ho _ _).set ho _ _).set ho _ _).set ho _ _, ((((HR6.out.set HGR.out hA' _ _).set HGR.out hA' _ _).set HGR.out hA' _ _).set HGR.out hA' _ _).set HGR.out hA' _ _, HBK.out⟩
set_option maxRecDepth 100000 in
set_option maxHeartbeats 1000000 in
theorem pass_yes34 {g : Nat} {A : Option Addr} {n c : Nat} {xe ye : Int} {xs : List Value} (w : World) (h : RdS w g A n c xe ye xs) (hn : 1 ≤ n) {k v ln cl : Int} {s : ByteArray} (hx : xs.take 5 = [.int .i64 k, .string s, .int .i64 v, .int .i64 ln, .int .i64 cl]) (gq : Nat) (CB : ∀ W, Below w.heap.size w W → Calls Tryd.prog 34 (#[.agg #[.int .i64 k, .string s, .int .i64 v, .int .i64 ln, .int .i64 cl]] ++ #[.pointer (some ⟨gq, 0, none⟩)]) W fun e w' => e = .returned (.bool true) ∧ Below W.heap.size W w') : Calls Tryd.prog 28 #[.pointer (some ⟨g, 0, none⟩), .func (.func 34) #[] #[.pointer (some ⟨gq, 0, none⟩)]] w fun e w' => ∃ A', e = .returned (.tuple #[.agg #[.int .i64 k, .string s, .int .i64 v, .int .i64 ln, .int .i64 cl], .int .i64 0]) ∧ Only (fun q => q = g) w w' ∧ RdS w' g A' (n - 1) (c - 1) xe ye (xs.drop 5) ∧ ∀ b, A' = some b → ∃ a, A = some a ∧ b.block = a.block := by
  have HN := Lib.hid hn
  have HGL := Lib.hid h.b.lt
  have HAL : Hid (∀ a, A = some a → a.block < w.heap.size) := Lib.hid (fun a ha => by
    have h9 := h.t.h.2.2 a ha 0 (.int .i64 k) (by have : (xs.take 5)[0]? = some (.int .i64 k) := by rw [hx]; rfl
                                                  rwa [List.getElem?_take_of_lt (by omega)] at this)
    have := World.block_lt_of_cell? _ _ h9
    simpa [Addr.add] using this)
  have hb := (Below.refl w.heap.size w).alloc (Nat.le_refl _) (.cells #[.int .i64 0, .string ⟨#[]⟩, .int .i64 0, .int .i64 0, .int .i64 0] 32)
  obtain ⟨W1, hW1⟩ : ∃ W1, w.alloc (.cells #[.int .i64 0, .string ⟨#[]⟩, .int .i64 0, .int .i64 0, .int .i64 0] 32) = W1 := ⟨_, rfl⟩
  have hg : Blk W1 w.heap.size 32 #[.int .i64 0, .string ⟨#[]⟩, .int .i64 0, .int .i64 0, .int .i64 0] := hW1 ▸ Blk.new w 32 _
  rw [hW1] at hb
  have HR := Lib.hid (h.below hb)
  have HG := Lib.hid hg
  have HB := Lib.hid hb
  have HW := Lib.hid hW1
  have C9 := Lib.hid (peek_tok W1 (h.below hb) hn hx)
  have CB := Lib.hid CB
  clear hx hn
  clear hb h hg hW1
  go_enter Tryd.func28, Tryd.ntmps28
  go_upto_region 1 with fail
  rw [HW.out]
  go_upto_region 4 with (go_at_call 9; (with_reducible refine C9.out.mono ?_); rintro e w2 ⟨rfl, hb2⟩; have HG2 := Lib.hid (HG.out.below hb2 HG.out.lt); have HB2 := Lib.hid (HB.out.trans (hb2.mono HB.out.size)); have HR2 := Lib.hid (HR.out.below hb2); clear hb2)
  obtain ⟨W3, hW3⟩ : ∃ W3, w2.alloc (.cells #[.int .i64 k, .string s, .int .i64 v, .int .i64 ln, .int .i64 cl] 32) = W3 := ⟨_, rfl⟩
  have HG3 := Lib.hid (hW3 ▸ HG2.out.alloc (.cells #[.int .i64 k, .string s, .int .i64 v, .int .i64 ln, .int .i64 cl] 32))
  have HB3 := Lib.hid (hW3 ▸ HB2.out.alloc HB2.out.size (.cells #[.int .i64 k, .string s, .int .i64 v, .int .i64 ln, .int .i64 cl] 32))
  have HT3 : Hid (Blk W3 w2.heap.size 32 #[.int .i64 k, .string s, .int .i64 v, .int .i64 ln, .int .i64 cl]) := Lib.hid (hW3 ▸ Blk.new w2 32 _)
  have HR3 : Hid (RdS W3 g A n c xe ye xs) := Lib.hid (HR2.out.below (hW3 ▸ (Below.refl _ w2).alloc (Nat.le_refl _) _))
  rw [hW3]
  obtain ⟨gt, hgt⟩ : ∃ gt, w2.heap.size = gt := ⟨_, rfl⟩
  rw [hgt] at HT3 ⊢
  clear hW3 hgt
  have t0 := HT3.out.cell 0
  have t1 := HT3.out.cell 1
  have t2 := HT3.out.cell 2
  have t3 := HT3.out.cell 3
  have t4 := HT3.out.cell 4
  simp only [List.getElem?_toArray, List.getElem?_cons_zero, List.getElem?_cons_succ] at t0 t1 t2 t3 t4
  go_upto_region 6 with (go_at_call 34; refine (CB.out _ HB3.out).mono ?_; rintro e w5 ⟨rfl, hb5⟩; have HG5 := Lib.hid (HG3.out.below hb5 HG3.out.lt); have HB5 := Lib.hid (HB3.out.trans (hb5.mono HB3.out.size)); have HR5 := Lib.hid (HR3.out.below hb5); have HT5 := Lib.hid (HT3.out.below hb5 HT3.out.lt); clear hb5)
  clear t0 t1 t2 t3 t4
  obtain ⟨A', hrun, hts, hblk⟩ := tail24 w5 A n c xs HR5.out.t HN.out
  have HTS := Lib.hid hts
  have HBK := Lib.hid hblk
  have e0 := HR5.out.b.cell 0
  have z9 := HR5.out.b.frozen 0
  simp only [List.getElem?_toArray, List.getElem?_cons_zero] at e0
  clear hts hblk
  go_upto_region 7 with fail
  have hgt : gt ≠ g := Blk.ne HT5.out HR5.out.b (by decide)
  have hgr : w.heap.size ≠ g := by have := HGL.out; omega
  obtain ⟨W6, hW6⟩ : ∃ W6, w5.setCell ⟨g, 0, none⟩ (.slice A' (n - 1) (c - 1)) = W6 := ⟨_, rfl⟩
  have HT6 : Hid (Blk W6 gt 32 #[.int .i64 k, .string s, .int .i64 v, .int .i64 ln, .int .i64 cl]) := Lib.hid (hW6 ▸ HT5.out.far (by simpa using hgt) _)
  have HG6 : Hid (Blk W6 w.heap.size 32 #[.int .i64 0, .string ⟨#[]⟩, .int .i64 0, .int .i64 0, .int .i64 0]) := Lib.hid (hW6 ▸ HG5.out.far (by simpa using hgr) _)
  have HO6 : Hid (Only (fun q => q = g) w W6) := Lib.hid (by rw [← hW6]; exact (Only.of_below (p := fun q => q = g) HB5.out).set (g := g) (fun _ => rfl) 0 _)
  have HR6 : Hid (RdS W6 g A' (n - 1) (c - 1) xe ye (xs.drop 5)) := Lib.hid ⟨hW6 ▸ by have := HR5.out.b.set_ 0 (.slice A' (n - 1) (c - 1)); simpa using this, ⟨⟨HTS.out.h.1, HTS.out.h.2.1, fun b hb j x hx => by
      have hq := HTS.out.h.2.2 b hb j x hx
      have e : (b.add j).block = b.block := by by_cases q : j = 0 <;> simp [Addr.add, q]
      obtain ⟨a, ha, e2⟩ := HBK.out b hb
      have hne := HR5.out.far a ha
      rw [← hW6]
      unfold World.cell? at hq ⊢
      rw [Below.heap_setCell _ _ _ _ (by rw [e, e2]; exact hne)]
      exact hq⟩, HTS.out.nc, HTS.out.cm, HTS.out.z⟩, HR5.out.x, fun b hb => by obtain ⟨a, ha, e⟩ := HBK.out b hb; rw [e]; exact HR5.out.far a ha⟩
  have HGR := Lib.hid hgr
  rw [hW6]
  clear hW6 hgt hgr e0 z9 hrun
  have t0 := HT6.out.cell 0
  have t1 := HT6.out.cell 1
  have t2 := HT6.out.cell 2
  have t3 := HT6.out.cell 3
  have t4 := HT6.out.cell 4
  simp only [List.getElem?_toArray, List.getElem?_cons_zero, List.getElem?_cons_succ] at t0 t1 t2 t3 t4
  have c0 := HG6.out.cell 0
  have c1 := HG6.out.cell 1
  have c2 := HG6.out.cell 2
  have c3 := HG6.out.cell 3
  have c4 := HG6.out.cell 4
  simp only [List.getElem?_toArray, List.getElem?_cons_zero, List.getElem?_cons_succ] at c0 c1 c2 c3 c4
  have z0 := HG6.out.frozen 0
  have z1 := HG6.out.frozen 1
  have z2 := HG6.out.frozen 2
  have z3 := HG6.out.frozen 3
  have z4 := HG6.out.frozen 4
  go_wp2_with fail
  have hA' : ∀ b, A' = some b → b.block ≠ w.heap.size := fun b hb => by
    obtain ⟨a, ha, e⟩ := HBK.out b hb
    have := HAL.out a ha
    omega
  have ho : w.heap.size < w.heap.size → w.heap.size = g := fun h => absurd h (Nat.lt_irrefl _)
  refine bodyPost_ret (resT28 _ _ _ _ _ _ _ _ _ rfl rfl (HG6.out.set5 _ _ _ _ _)) rfl ⟨A', rfl, ((((HO6.out.set ho _ _).set ho _ _).set ho _ _).set ho _ _).set ho _ _, ((((HR6.out.set HGR.out hA' _ _).set HGR.out hA' _ _).set HGR.out hA' _ _).set HGR.out hA' _ _).set HGR.out hA' _ _, HBK.out⟩

end Go.Proofs.YtkihoekldklkhaaDoor
