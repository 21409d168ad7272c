/- Peek of a reader. -/
import Derived.Test.YtkihoekldklkhaaDoorRc
namespace Go.Proofs.YtkihoekldklkhaaDoor
open Go.RowKit
set_option linter.unusedVariables false
set_option linter.unusedSimpArgs false

/-- A reader's state: its tokens' cells and the place of the end. -/
structure RdS (W : World) (g : Nat) (A : Option Addr) (n c : Nat) (xe ye : Int) (xs : List Value) : Prop where
  b : Blk W g 28 #[.slice A n c, .int .i64 xe, .int .i64 ye]
  t : TS 5 W A n c xs
  x : 1 ≤ xe
  far : ∀ a, A = some a → a.block ≠ g
theorem RdS.below {W W' : World} {g : Nat} {A : Option Addr} {n c : Nat} {xe ye : Int} {xs : List Value} (h : RdS W g A n c xe ye xs) (hb : Below W.heap.size W W') : RdS W' g A n c xe ye xs := ⟨h.b.below hb h.b.lt, h.t.below hb, h.x, h.far⟩
set_option maxRecDepth 100000 in
set_option maxHeartbeats 1000000 in
theorem is_some {g : Nat} {A : Option Addr} {n c : Nat} {xe ye : Int} {xs : List Value} (w : World) (h : RdS w g A n c xe ye xs) : Calls Tryd.prog 27 #[.pointer (some ⟨g, 0, none⟩)] w fun e w' => e = .returned (.bool false) ∧ w' = w := by
  have e1 := h.b.cell 1
  have e2 := h.b.cell 2
  simp only [List.getElem?_toArray, List.getElem?_cons_zero, List.getElem?_cons_succ] at e1 e2
  have q : (xe == 0) = false := by have := h.x; simp; omega
  clear h
  go_enter Tryd.func27, Tryd.ntmps27
  go_wp2_with fail
  go_ret
  exact ⟨by first | rfl | simp [q], by first | rfl | trivial⟩
set_option maxRecDepth 100000 in
set_option maxHeartbeats 1000000 in
theorem peek_end {g : Nat} {A : Option Addr} {n c : Nat} {xe ye : Int} {xs : List Value} (w : World) (h : RdS w g A n c xe ye xs) (hn : n = 0) : Calls Tryd.prog 9 #[.pointer (some ⟨g, 0, none⟩)] w fun e w' => e = .returned (.tuple #[.agg #[.int .i64 0, .string ⟨#[]⟩, .int .i64 0, .int .i64 0, .int .i64 0], .int .i64 9]) ∧ Below w.heap.size w w' := by
  have hb := (Below.refl w.heap.size w).alloc (Nat.le_refl _) (.cells #[.int .i64 0, .string ⟨#[]⟩, .int .i64 0, .int .i64 0, .int .i64 0] 32)
  obtain ⟨W1, hW1⟩ : ∃ W1, w.alloc (.cells #[.int .i64 0, .string ⟨#[]⟩, .int .i64 0, .int .i64 0, .int .i64 0] 32) = W1 := ⟨_, rfl⟩
  have hg : Blk W1 w.heap.size 32 #[.int .i64 0, .string ⟨#[]⟩, .int .i64 0, .int .i64 0, .int .i64 0] := hW1 ▸ Blk.new w 32 _
  rw [hW1] at hb
  have h := h.below hb
  have C27 := Lib.hid (is_some W1 h)
  have e0 := h.b.cell 0
  simp only [List.getElem?_toArray, List.getElem?_cons_zero] at e0
  subst hn
  have HG := Lib.hid hg
  have HB := Lib.hid hb
  have HW := Lib.hid hW1
  clear hb h hg hW1
  go_enter Tryd.func9, Tryd.ntmps9
  go_upto_region 1 with fail
  rw [HW.out]
  have c0 := HG.out.cell 0
  have c1 := HG.out.cell 1
  have c2 := HG.out.cell 2
  have c3 := HG.out.cell 3
  have c4 := HG.out.cell 4
  simp only [List.getElem?_toArray, List.getElem?_cons_zero, List.getElem?_cons_succ] at c0 c1 c2 c3 c4
  have z0 := HG.out.frozen 0
  have z1 := HG.out.frozen 1
  have z2 := HG.out.frozen 2
  have z3 := HG.out.frozen 3
  have z4 := HG.out.frozen 4
  go_wp2_with (go_at_call 27; (with_reducible refine C27.out.mono ?_); rintro e w2 ⟨rfl, hw2⟩; rw [hw2])
  refine bodyPost_ret (resT9 _ _ _ _ _ _ _ _ _ rfl rfl (HG.out.set5 _ _ _ _ _)) rfl ⟨rfl, below_set5 HB.out (Nat.le_refl _) _ _ _ _ _⟩
set_option maxRecDepth 100000 in
set_option maxHeartbeats 1000000 in
theorem peek_tok {g : Nat} {A : Option Addr} {n c : Nat} {xe ye : Int} {xs : List Value} (w : World) (h : RdS w g A n c xe ye xs) (hn : 1 ≤ n) {k v ln cl : Int} {s : ByteArray} (hx : xs.take 5 = [.int .i64 k, .string s, .int .i64 v, .int .i64 ln, .int .i64 cl]) : Calls Tryd.prog 9 #[.pointer (some ⟨g, 0, none⟩)] w fun e w' => e = .returned (.tuple #[.agg #[.int .i64 k, .string s, .int .i64 v, .int .i64 ln, .int .i64 cl], .int .i64 0]) ∧ Below w.heap.size w w' := by
  have hb := (Below.refl w.heap.size w).alloc (Nat.le_refl _) (.cells #[.int .i64 0, .string ⟨#[]⟩, .int .i64 0, .int .i64 0, .int .i64 0] 32)
  obtain ⟨W1, hW1⟩ : ∃ W1, w.alloc (.cells #[.int .i64 0, .string ⟨#[]⟩, .int .i64 0, .int .i64 0, .int .i64 0] 32) = W1 := ⟨_, rfl⟩
  have hg : Blk W1 w.heap.size 32 #[.int .i64 0, .string ⟨#[]⟩, .int .i64 0, .int .i64 0, .int .i64 0] := hW1 ▸ Blk.new w 32 _
  rw [hW1] at hb
  have h := h.below hb
  have C27 := Lib.hid (is_some W1 h)
  have e0 := h.b.cell 0
  simp only [List.getElem?_toArray, List.getElem?_cons_zero] at e0
  have hn0 : (n : Int) ≠ 0 := by omega
  have hn1 : (0 : Int) < n := by omega
  have qn : ((n : Int) == 0) = false := by simp; omega
  obtain ⟨b, rfl⟩ : ∃ b, A = some b := by
    cases A with
    | none => have := h.t.h.2.1 rfl; omega
    | some b => exact ⟨b, rfl⟩
  obtain ⟨gb, go, gs⟩ := b
  have key : ∀ j u, (xs.take 5)[j]? = some u → W1.cell? ((⟨gb, go, gs⟩ : Addr).add j) = some u := fun j u hj => h.t.h.2.2 _ rfl j u (by
    have hl := (List.getElem?_eq_some_iff.1 hj).1
    rw [List.length_take] at hl
    rwa [List.getElem?_take_of_lt (by omega)] at hj)
  rw [hx] at key
  have hgs : gs = none := by have := World.cell?_spot (key 0 _ rfl); simpa [Addr.add] using this
  subst hgs
  have f0 := key 0 _ rfl
  have f1 := key 1 _ rfl
  have f2 := key 2 _ rfl
  have f3 := key 3 _ rfl
  have f4 := key 4 _ rfl
  rw [Addr.add_lit] at f0 f1 f2 f3 f4
  rw [Nat.add_zero] at f0
  clear key hx hn
  have HG := Lib.hid hg
  have HB := Lib.hid hb
  have HW := Lib.hid hW1
  clear hb h hg hW1
  go_enter Tryd.func9, Tryd.ntmps9
  go_upto_region 1 with fail
  rw [HW.out]
  have c0 := HG.out.cell 0
  have c1 := HG.out.cell 1
  have c2 := HG.out.cell 2
  have c3 := HG.out.cell 3
  have c4 := HG.out.cell 4
  simp only [List.getElem?_toArray, List.getElem?_cons_zero, List.getElem?_cons_succ] at c0 c1 c2 c3 c4
  have z0 := HG.out.frozen 0
  have z1 := HG.out.frozen 1
  have z2 := HG.out.frozen 2
  have z3 := HG.out.frozen 3
  have z4 := HG.out.frozen 4
  go_wp2_with (go_at_call 27; (with_reducible refine C27.out.mono ?_); rintro e w2 ⟨rfl, hw2⟩; rw [hw2])
  refine bodyPost_ret (resT9 _ _ _ _ _ _ _ _ _ rfl rfl (HG.out.set5 _ _ _ _ _)) rfl ⟨rfl, below_set5 HB.out (Nat.le_refl _) _ _ _ _ _⟩

end Go.Proofs.YtkihoekldklkhaaDoor
