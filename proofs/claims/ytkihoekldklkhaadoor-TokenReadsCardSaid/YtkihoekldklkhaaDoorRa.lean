/- The methods of a reader that is none. -/
import Derived.Test.YtkihoekldklkhaaDoorTt
namespace Go.Proofs.YtkihoekldklkhaaDoor
open Go.RowKit
set_option linter.unusedVariables false
set_option linter.unusedSimpArgs false

/-- A reader that is none: nil, or the zero value. -/
def NoR (p : Option Addr) (W : World) : Prop := p = none ∨ ∃ g, p = some ⟨g, 0, none⟩ ∧ Blk W g 28 #[.slice none 0 0, .int .i64 0, .int .i64 0]
theorem NoR.below {p : Option Addr} {W W' : World} (h : NoR p W) (hb : Below W.heap.size W W') : NoR p W' := by
  rcases h with h | ⟨g, h1, h2⟩
  · exact .inl h
  · exact .inr ⟨g, h1, h2.below hb h2.lt⟩
set_option maxRecDepth 100000 in
set_option maxHeartbeats 1000000 in
theorem is_none (p : Option Addr) (w : World) (h : NoR p w) : Calls Tryd.prog 27 #[.pointer p] w fun e w' => e = .returned (.bool true) ∧ w' = w := by
  rcases h with rfl | ⟨g, rfl, h2⟩
  · go_enter Tryd.func27, Tryd.ntmps27
    go_wp2_with fail
    go_ret
    exact ⟨rfl, by first | rfl | trivial⟩
  · have e1 := h2.cell 1
    have e2 := h2.cell 2
    simp only [List.getElem?_toArray, List.getElem?_cons_zero, List.getElem?_cons_succ] at e1 e2
    clear h2
    go_enter Tryd.func27, Tryd.ntmps27
    go_wp2_with fail
    go_ret
    exact ⟨by first | rfl | simp, by first | rfl | trivial⟩
theorem resT9 (tmps : Array Value) (W : World) (gp : Nat) (a b c d e z : Value) (h4 : tmps.getD 2 undef = .pointer (some ⟨gp, 0, none⟩)) (h5 : tmps.getD 3 undef = z) (hp : Blk W gp 32 #[a, b, c, d, e]) : (results Tryd.f9 tmps).run Tryd.prog W = .ok (.tuple #[.agg #[a, b, c, d, e], z]) W := by
  have k0 := hp.cell 0
  have k1 := hp.cell 1
  have k2 := hp.cell 2
  have k3 := hp.cell 3
  have k4 := hp.cell 4
  simp at k0 k1 k2 k3 k4 h4 h5
  simp [results, Tryd.results9, go_sem, h4, h5, k0, k1, k2, k3, k4]
theorem resT28 (tmps : Array Value) (W : World) (gp : Nat) (a b c d e z : Value) (h4 : tmps.getD 4 undef = .pointer (some ⟨gp, 0, none⟩)) (h5 : tmps.getD 5 undef = z) (hp : Blk W gp 32 #[a, b, c, d, e]) : (results Tryd.f28 tmps).run Tryd.prog W = .ok (.tuple #[.agg #[a, b, c, d, e], z]) W := by
  have k0 := hp.cell 0
  have k1 := hp.cell 1
  have k2 := hp.cell 2
  have k3 := hp.cell 3
  have k4 := hp.cell 4
  simp at k0 k1 k2 k3 k4 h4 h5
  simp [results, Tryd.results28, go_sem, h4, h5, k0, k1, k2, k3, k4]
theorem resT10 (tmps : Array Value) (W : World) (gp : Nat) (a b c d e z : Value) (h4 : tmps.getD 2 undef = .pointer (some ⟨gp, 0, none⟩)) (h5 : tmps.getD 3 undef = z) (hp : Blk W gp 32 #[a, b, c, d, e]) : (results Tryd.f10 tmps).run Tryd.prog W = .ok (.tuple #[.agg #[a, b, c, d, e], z]) W := by
  have k0 := hp.cell 0
  have k1 := hp.cell 1
  have k2 := hp.cell 2
  have k3 := hp.cell 3
  have k4 := hp.cell 4
  simp at k0 k1 k2 k3 k4 h4 h5
  simp [results, Tryd.results10, go_sem, h4, h5, k0, k1, k2, k3, k4]
theorem Blk.set5 {W : World} {g t : Nat} {x0 x1 x2 x3 x4 : Value} (h : Blk W g t #[x0, x1, x2, x3, x4]) (y0 y1 y2 y3 y4 : Value) : Blk (((((W.setCell ⟨g, 0, none⟩ y0).setCell ⟨g, 1, none⟩ y1).setCell ⟨g, 2, none⟩ y2).setCell ⟨g, 3, none⟩ y3).setCell ⟨g, 4, none⟩ y4) g t #[y0, y1, y2, y3, y4] := by
  have := ((((h.set_ 0 y0).set_ 1 y1).set_ 2 y2).set_ 3 y3).set_ 4 y4
  simpa using this
theorem below_set5 {n : Nat} {w W : World} {g : Nat} (h : Below n w W) (hg : n ≤ g) (y0 y1 y2 y3 y4 : Value) : Below n w (((((W.setCell ⟨g, 0, none⟩ y0).setCell ⟨g, 1, none⟩ y1).setCell ⟨g, 2, none⟩ y2).setCell ⟨g, 3, none⟩ y3).setCell ⟨g, 4, none⟩ y4) :=
  Below.setCell (Below.setCell (Below.setCell (Below.setCell (Below.setCell h hg _) hg _) hg _) hg _) hg _
set_option maxRecDepth 100000 in
set_option maxHeartbeats 1000000 in
theorem peek_none (p : Option Addr) (w : World) (h : NoR p w) : Calls Tryd.prog 9 #[.pointer p] w fun e w' => e = .returned (.tuple #[.agg #[.int .i64 0, .string ⟨#[]⟩, .int .i64 0, .int .i64 0, .int .i64 0], .int .i64 1]) ∧ Below w.heap.size w w' := by
  have hb := (Below.refl w.heap.size w).alloc (Nat.le_refl _) (.cells #[.int .i64 0, .string ⟨#[]⟩, .int .i64 0, .int .i64 0, .int .i64 0] 32)
  obtain ⟨W1, hW1⟩ : ∃ W1, w.alloc (.cells #[.int .i64 0, .string ⟨#[]⟩, .int .i64 0, .int .i64 0, .int .i64 0] 32) = W1 := ⟨_, rfl⟩
  have hg : Blk W1 w.heap.size 32 #[.int .i64 0, .string ⟨#[]⟩, .int .i64 0, .int .i64 0, .int .i64 0] := hW1 ▸ Blk.new w 32 _
  rw [hW1] at hb
  have C27 := Lib.hid (is_none p W1 (h.below hb))
  have HG := Lib.hid hg
  have HB := Lib.hid hb
  have HW := Lib.hid hW1
  clear hb h hg hW1
  go_enter Tryd.func9, Tryd.ntmps9
  go_upto_region 1 with fail
  rw [HW.out]
  have fz : ∀ j, W1.frozen? ⟨w.heap.size, j, none⟩ = false := fun j => HG.out.frozen j
  have c0 := HG.out.cell 0
  have c1 := HG.out.cell 1
  have c2 := HG.out.cell 2
  have c3 := HG.out.cell 3
  have c4 := HG.out.cell 4
  simp only [List.getElem?_toArray, List.getElem?_cons_zero, List.getElem?_cons_succ] at c0 c1 c2 c3 c4
  have z0 := fz 0
  have z1 := fz 1
  have z2 := fz 2
  have z3 := fz 3
  have z4 := fz 4
  clear fz
  go_wp2_with (go_at_call 27; (with_reducible refine C27.out.mono ?_); rintro e w2 ⟨rfl, hw2⟩; rw [hw2])
  refine bodyPost_ret (resT9 _ _ _ _ _ _ _ _ _ rfl rfl (HG.out.set5 _ _ _ _ _)) rfl ⟨rfl, below_set5 HB.out (Nat.le_refl _) _ _ _ _ _⟩
set_option maxRecDepth 100000 in
set_option maxHeartbeats 1000000 in
theorem pass_none (p : Option Addr) (f : Value) (w : World) (h : NoR p w) : Calls Tryd.prog 28 #[.pointer p, f] w fun e w' => e = .returned (.tuple #[.agg #[.int .i64 0, .string ⟨#[]⟩, .int .i64 0, .int .i64 0, .int .i64 0], .int .i64 1]) ∧ Below w.heap.size w w' := by
  have hb := (Below.refl w.heap.size w).alloc (Nat.le_refl _) (.cells #[.int .i64 0, .string ⟨#[]⟩, .int .i64 0, .int .i64 0, .int .i64 0] 32)
  obtain ⟨W1, hW1⟩ : ∃ W1, w.alloc (.cells #[.int .i64 0, .string ⟨#[]⟩, .int .i64 0, .int .i64 0, .int .i64 0] 32) = W1 := ⟨_, rfl⟩
  have hg : Blk W1 w.heap.size 32 #[.int .i64 0, .string ⟨#[]⟩, .int .i64 0, .int .i64 0, .int .i64 0] := hW1 ▸ Blk.new w 32 _
  rw [hW1] at hb
  have C9 := Lib.hid (peek_none p W1 (h.below hb))
  have HG := Lib.hid hg
  have HB := Lib.hid hb
  have HW := Lib.hid hW1
  clear hb h hg hW1
  go_enter Tryd.func28, Tryd.ntmps28
  go_upto_region 1 with fail
  rw [HW.out]
  go_upto_region 3 with (go_at_call 9; (with_reducible refine C9.out.mono ?_); rintro e w2 ⟨rfl, hb2⟩; have HG2 := Lib.hid (HG.out.below hb2 HG.out.lt); have HB2 := Lib.hid (HB.out.trans (hb2.mono HB.out.size)); clear hb2)
  obtain ⟨W3, hW3⟩ : ∃ W3, w2.alloc (.cells #[.int .i64 0, .string ⟨#[]⟩, .int .i64 0, .int .i64 0, .int .i64 0] 32) = W3 := ⟨_, rfl⟩
  have HG3 := Lib.hid (hW3 ▸ HG2.out.alloc (.cells #[.int .i64 0, .string ⟨#[]⟩, .int .i64 0, .int .i64 0, .int .i64 0] 32))
  have HB3 := Lib.hid (hW3 ▸ HB2.out.alloc HB2.out.size (.cells #[.int .i64 0, .string ⟨#[]⟩, .int .i64 0, .int .i64 0, .int .i64 0] 32))
  rw [hW3]
  clear hW3
  have c0 := HG3.out.cell 0
  have c1 := HG3.out.cell 1
  have c2 := HG3.out.cell 2
  have c3 := HG3.out.cell 3
  have c4 := HG3.out.cell 4
  simp only [List.getElem?_toArray, List.getElem?_cons_zero, List.getElem?_cons_succ] at c0 c1 c2 c3 c4
  have z0 := HG3.out.frozen 0
  have z1 := HG3.out.frozen 1
  have z2 := HG3.out.frozen 2
  have z3 := HG3.out.frozen 3
  have z4 := HG3.out.frozen 4
  go_wp2_with fail
  refine bodyPost_ret (resT28 _ _ _ _ _ _ _ _ _ rfl rfl (HG3.out.set5 _ _ _ _ _)) rfl ⟨rfl, below_set5 HB3.out (Nat.le_refl _) _ _ _ _ _⟩
set_option maxRecDepth 100000 in
set_option maxHeartbeats 1000000 in
theorem next_none (p : Option Addr) (w : World) (h : NoR p w) : Calls Tryd.prog 10 #[.pointer p] w fun e w' => e = .returned (.tuple #[.agg #[.int .i64 0, .string ⟨#[]⟩, .int .i64 0, .int .i64 0, .int .i64 0], .int .i64 1]) ∧ Below w.heap.size w w' := by
  have hb := (Below.refl w.heap.size w).alloc (Nat.le_refl _) (.cells #[.int .i64 0, .string ⟨#[]⟩, .int .i64 0, .int .i64 0, .int .i64 0] 32)
  obtain ⟨W1, hW1⟩ : ∃ W1, w.alloc (.cells #[.int .i64 0, .string ⟨#[]⟩, .int .i64 0, .int .i64 0, .int .i64 0] 32) = W1 := ⟨_, rfl⟩
  have hg : Blk W1 w.heap.size 32 #[.int .i64 0, .string ⟨#[]⟩, .int .i64 0, .int .i64 0, .int .i64 0] := hW1 ▸ Blk.new w 32 _
  rw [hW1] at hb
  have C28 := Lib.hid (fun f => pass_none p f W1 (h.below hb))
  have HG := Lib.hid hg
  have HB := Lib.hid hb
  have HW := Lib.hid hW1
  clear hb h hg hW1
  go_enter Tryd.func10, Tryd.ntmps10
  go_upto_region 1 with fail
  rw [HW.out]
  go_wp2_with (go_at_call 28; (with_reducible refine (C28.out _).mono ?_); rintro e w2 ⟨rfl, hb2⟩; have HG2 := Lib.hid (HG.out.below hb2 HG.out.lt); have HB2 := Lib.hid (HB.out.trans (hb2.mono HB.out.size)); clear hb2; have c0 := HG2.out.cell 0; have c1 := HG2.out.cell 1; have c2 := HG2.out.cell 2; have c3 := HG2.out.cell 3; have c4 := HG2.out.cell 4; simp only [List.getElem?_toArray, List.getElem?_cons_zero, List.getElem?_cons_succ] at c0 c1 c2 c3 c4; have z0 := HG2.out.frozen 0; have z1 := HG2.out.frozen 1; have z2 := HG2.out.frozen 2; have z3 := HG2.out.frozen 3; have z4 := HG2.out.frozen 4)
  refine bodyPost_ret (resT10 _ _ _ _ _ _ _ _ _ rfl rfl (HG2.out.set5 _ _ _ _ _)) rfl ⟨rfl, below_set5 HB2.out (Nat.le_refl _) _ _ _ _ _⟩
set_option maxRecDepth 100000 in
set_option maxHeartbeats 1000000 in
theorem word_none (p : Option Addr) (w : World) (h : NoR p w) : Calls Tryd.prog 11 #[.pointer p] w fun e w' => e = .returned (.tuple #[.string ⟨#[]⟩, .int .i64 1]) ∧ Below w.heap.size w w' := by
  have C28 := Lib.hid (fun f => pass_none p f w h)
  clear h
  go_enter Tryd.func11, Tryd.ntmps11
  go_wp2_with (go_at_call 28; (with_reducible refine (C28.out _).mono ?_); rintro e w2 ⟨rfl, hb2⟩; have HB2 := Lib.hid hb2; clear hb2)
  go_ret2
  exact ⟨rfl, HB2.out.alloc HB2.out.size _⟩
set_option maxRecDepth 100000 in
set_option maxHeartbeats 1000000 in
theorem number_none (p : Option Addr) (w : World) (h : NoR p w) : Calls Tryd.prog 12 #[.pointer p] w fun e w' => e = .returned (.tuple #[.int .i64 0, .int .i64 1]) ∧ Below w.heap.size w w' := by
  have C28 := Lib.hid (fun f => pass_none p f w h)
  clear h
  go_enter Tryd.func12, Tryd.ntmps12
  go_wp2_with (go_at_call 28; (with_reducible refine (C28.out _).mono ?_); rintro e w2 ⟨rfl, hb2⟩; have HB2 := Lib.hid hb2; clear hb2)
  go_ret2
  exact ⟨rfl, HB2.out.alloc HB2.out.size _⟩
set_option maxRecDepth 100000 in
set_option maxHeartbeats 1000000 in
theorem take_none (p : Option Addr) (s : ByteArray) (w : World) (h : NoR p w) : Calls Tryd.prog 14 #[.pointer p, .string s] w fun e w' => e = .returned (.int .i64 1) ∧ Below w.heap.size w w' := by
  have hb := (Below.refl w.heap.size w).alloc (Nat.le_refl _) (.cells #[.string s] 9)
  obtain ⟨W1, hW1⟩ : ∃ W1, w.alloc (.cells #[.string s] 9) = W1 := ⟨_, rfl⟩
  have hg : Blk W1 w.heap.size 9 #[.string s] := hW1 ▸ Blk.new w 9 _
  rw [hW1] at hb
  have C28 := Lib.hid (fun f => pass_none p f W1 (h.below hb))
  have HG := Lib.hid hg
  have HB := Lib.hid hb
  have HW := Lib.hid hW1
  clear hb h hg hW1
  go_enter Tryd.func14, Tryd.ntmps14
  go_upto_region 1 with fail
  rw [HW.out]
  go_wp2_with (go_at_call 28; (with_reducible refine (C28.out _).mono ?_); rintro e w2 ⟨rfl, hb2⟩; have HB2 := Lib.hid (HB.out.trans (hb2.mono HB.out.size)); clear hb2)
  go_ret
  exact ⟨rfl, HB2.out.alloc HB2.out.size _⟩
theorem resP15 (tmps : Array Value) (W : World) (gp : Nat) (a b : Value) (h4 : tmps.getD 2 undef = .pointer (some ⟨gp, 0, none⟩)) (hp : Blk W gp 26 #[a, b]) : (results Tryd.f15 tmps).run Tryd.prog W = .ok (.agg #[a, b]) W := by
  have k0 := hp.cell 0
  have k1 := hp.cell 1
  simp at k0 k1 h4
  simp [results, Tryd.results15, go_sem, h4, k0, k1]
set_option maxRecDepth 100000 in
set_option maxHeartbeats 1000000 in
theorem place_none (p : Option Addr) (w : World) (h : NoR p w) : Calls Tryd.prog 15 #[.pointer p] w fun e w' => e = .returned (.agg #[.int .i64 0, .int .i64 0]) ∧ Below w.heap.size w w' := by
  have hb := (Below.refl w.heap.size w).alloc (Nat.le_refl _) (.cells #[.int .i64 0, .int .i64 0] 26)
  obtain ⟨W1, hW1⟩ : ∃ W1, w.alloc (.cells #[.int .i64 0, .int .i64 0] 26) = W1 := ⟨_, rfl⟩
  have hg : Blk W1 w.heap.size 26 #[.int .i64 0, .int .i64 0] := hW1 ▸ Blk.new w 26 _
  rw [hW1] at hb
  have C9 := Lib.hid (peek_none p W1 (h.below hb))
  have HG := Lib.hid hg
  have HB := Lib.hid hb
  have HW := Lib.hid hW1
  clear hb h hg hW1
  go_enter Tryd.func15, Tryd.ntmps15
  go_upto_region 1 with fail
  rw [HW.out]
  go_upto_region 4 with (go_at_call 9; (with_reducible refine C9.out.mono ?_); rintro e w2 ⟨rfl, hb2⟩; have HG2 := Lib.hid (HG.out.below hb2 HG.out.lt); have HB2 := Lib.hid (HB.out.trans (hb2.mono HB.out.size)); clear hb2)
  obtain ⟨W3, hW3⟩ : ∃ W3, w2.alloc (.cells #[.int .i64 0, .string ⟨#[]⟩, .int .i64 0, .int .i64 0, .int .i64 0] 32) = W3 := ⟨_, rfl⟩
  have HG3 := Lib.hid (hW3 ▸ HG2.out.alloc (.cells #[.int .i64 0, .string ⟨#[]⟩, .int .i64 0, .int .i64 0, .int .i64 0] 32))
  have HB3 := Lib.hid (hW3 ▸ HB2.out.alloc HB2.out.size (.cells #[.int .i64 0, .string ⟨#[]⟩, .int .i64 0, .int .i64 0, .int .i64 0] 32))
  rw [hW3]
  clear hW3
  have c0 := HG3.out.cell 0
  have c1 := HG3.out.cell 1
  simp only [List.getElem?_toArray, List.getElem?_cons_zero, List.getElem?_cons_succ] at c0 c1
  have z0 := HG3.out.frozen 0
  have z1 := HG3.out.frozen 1
  go_wp2_with fail
  have HG4 : Blk ((W3.setCell ⟨w.heap.size, 0, none⟩ (.int .i64 0)).setCell ⟨w.heap.size, 1, none⟩ (.int .i64 0)) w.heap.size 26 #[.int .i64 0, .int .i64 0] := by simpa using (HG3.out.set_ 0 (.int .i64 0)).set_ 1 (.int .i64 0)
  refine bodyPost_ret (resP15 _ _ _ _ _ rfl HG4) rfl ⟨rfl, Below.setCell (Below.setCell HB3.out (Nat.le_refl _) _) (Nat.le_refl _) _⟩
def fn47 (g : Nat) : Value := .func (.func 47) #[] #[.pointer (some ⟨g, 0, none⟩)]
set_option maxRecDepth 100000 in
set_option maxHeartbeats 1000000 in
theorem clone_nil (w : World) : Calls Tryd.prog 33 #[.slice none 0 0] w fun e w' => e = .returned (.slice none 0 0) ∧ w' = w := by
  have hq : ∀ W : World, (binOp .eql 24 (.slice none 0 0) (.slice none 0 0)).run Tryd.prog W = .ok (.bool true) W := fun W => by kernel_rfl
  go_enter Tryd.func33, Tryd.ntmps33
  go_wp2_with fail
  go_ret
  exact ⟨by first | rfl | simp, by first | rfl | trivial⟩
set_option maxRecDepth 100000 in
set_option maxHeartbeats 1000000 in
theorem values_any (v : Value) (hv : v.oneCell' = true) (A : Option Addr) (n c : Nat) (e : v = .slice A n c) (w : World) : Calls Tryd.prog 32 #[v] w fun e w' => e = .returned (fn47 w.heap.size) ∧ w' = w.alloc (.cells #[v] 24) := by
  subst e
  go_enter Tryd.func32, Tryd.ntmps32
  go_wp2_with fail
  go_ret
  exact ⟨rfl, by first | rfl | trivial⟩
set_option maxRecDepth 100000 in
set_option maxHeartbeats 1000000 in
theorem rest_none (p : Option Addr) (w : World) (h : NoR p w) : Calls Tryd.prog 13 #[.pointer p] w fun e w' => ∃ g, e = .returned (fn47 g) ∧ Blk w' g 24 #[.slice none 0 0] ∧ Below w.heap.size w w' := by
  have C27 := Lib.hid (is_none p w h)
  have C33 := Lib.hid clone_nil
  have C32 := Lib.hid (values_any (.slice none 0 0) rfl none 0 0 rfl)
  clear h
  go_enter Tryd.func13, Tryd.ntmps13
  go_wp2_with (first | (go_at_call 27; (with_reducible refine C27.out.mono ?_); rintro e w2 ⟨rfl, hw2⟩; rw [hw2]) | (go_at_call 33; (with_reducible refine (C33.out _).mono ?_); rintro e w3 ⟨rfl, hw3⟩; rw [hw3]) | (go_at_call 32; (with_reducible refine (C32.out _).mono ?_); rintro e w4 ⟨rfl, hw4⟩; have HW4 := Lib.hid hw4; clear hw4; unfold fn47))
  go_ret
  exact ⟨_, rfl, HW4.out ▸ Blk.new w 24 _, HW4.out ▸ (Below.refl _ w).alloc (Nat.le_refl _) _⟩

end Go.Proofs.YtkihoekldklkhaaDoor
