/- The law's want, over what the reference's functions do. -/
import Derived.Test.YthkpmbgclllnjaaPl
import Derived.Test.YthkpmbgclllnjaaRk
namespace Go.Proofs.Ythkpmbgclllnjaa
open Go.RowKit
set_option linter.unusedVariables false
set_option linter.unusedSimpArgs false

/-- The worlds in which want's calls stand: its three boxes are there. -/
structure WantW (w w0 : World) (lim n c : Nat) (A : Option Addr) (tk : Nat) (cl : Bool) (kb : Int) (X : Option Addr) (mx cx : Nat) (N y : Int) : Prop where
  below : Below w.heap.size w w0
  k1 : Blk w0 w.heap.size 37 #[.int .i64 lim, .slice A n c, .int .i64 tk, .bool cl]
  k2 : Blk w0 (w.heap.size + 1) 53 #[.int .u8 kb, .slice X mx cx, .int .i64 N, .int .u8 y]
  k3 : Blk w0 (w.heap.size + 1 + 1) 37 #[.int .i64 0, .slice none 0 0, .int .i64 0, .bool false]
theorem WantW.mono {w w0 w1 : World} {lim n c : Nat} {A : Option Addr} {tk : Nat} {cl : Bool} {kb : Int} {X : Option Addr} {mx cx : Nat} {N y : Int} (h : WantW w w0 lim n c A tk cl kb X mx cx N y) (hb : Below w0.heap.size w0 w1) : WantW w w1 lim n c A tk cl kb X mx cx N y :=
  ⟨h.below.trans (hb.mono h.below.size), h.k1.below hb h.k1.lt, h.k2.below hb h.k2.lt, h.k3.below hb h.k3.lt⟩
theorem set4w {B : Nat} {w W : World} {g : Nat} {x0 x1 x2 x3 : Value} (h : Blk W g 37 #[x0, x1, x2, x3]) (hb : Below B w W) (hg : B ≤ g) (a b c d : Value) (Wf : World) (hW : ((((W.setCell ⟨g, 0, none⟩ a).setCell ⟨g, 1, none⟩ b).setCell ⟨g, 2, none⟩ c).setCell ⟨g, 3, none⟩ d) = Wf) : Blk Wf g 37 #[a, b, c, d] ∧ Below B w Wf := hW ▸ ⟨set4 h a b c d, below4 hb hg a b c d⟩
section
variable {w : World} {kb N y : Int} {X : Option Addr} {mx cx lim n c tk : Nat} {A : Option Addr} {cl : Bool}
theorem WantW.first (w : World) : WantW w (((w.alloc (.cells #[.int .i64 lim, .slice A n c, .int .i64 tk, .bool cl] 37)).alloc (.cells #[.int .u8 kb, .slice X mx cx, .int .i64 N, .int .u8 y] 53)).alloc (.cells #[.int .i64 0, .slice none 0 0, .int .i64 0, .bool false] 37)) lim n c A tk cl kb X mx cx N y := by
  have h1 := Blk.new w 37 #[.int .i64 lim, .slice A n c, .int .i64 tk, .bool cl]
  have h2 := Blk.new (w.alloc (.cells #[.int .i64 lim, .slice A n c, .int .i64 tk, .bool cl] 37)) 53 #[.int .u8 kb, .slice X mx cx, .int .i64 N, .int .u8 y]
  have h3 := Blk.new ((w.alloc (.cells #[.int .i64 lim, .slice A n c, .int .i64 tk, .bool cl] 37)).alloc (.cells #[.int .u8 kb, .slice X mx cx, .int .i64 N, .int .u8 y] 53)) 37 #[.int .i64 0, .slice none 0 0, .int .i64 0, .bool false]
  rw [World.size_alloc] at h2
  rw [World.size_alloc, World.size_alloc] at h3
  exact ⟨(((Below.refl _ w).alloc (Nat.le_refl _) _).alloc (by simp) _).alloc (by simp; omega) _, (h1.alloc _).alloc _, h2.alloc _, h3⟩

set_option maxRecDepth 100000 in
set_option maxHeartbeats 1000000 in
theorem want_feed (h0 : 0 ≤ kb) (h1 : kb < 256) (hK : kb % 7 = 0) (R : Option Addr → Nat → Nat → Nat → Bool → Option Addr → Nat → Nat → Int → World → World → Prop) (hc : ∀ W, Below w.heap.size w W → Calls Try.prog 43 #[.agg #[.int .i64 lim, .slice A n c, .int .i64 tk, .bool cl], .slice X mx cx] W fun e w' => ∃ (A1 : Option Addr) (n1 c1 tk1 : Nat) (cl1 : Bool) (E : Int), e = .returned (.tuple #[.agg #[.int .i64 lim, .slice A1 n1 c1, .int .i64 tk1, .bool cl1], .int .i64 E]) ∧ R A1 n1 c1 tk1 cl1 none 0 0 E W w' ∧ Below W.heap.size W w') :
    Calls Try.prog 37 #[.agg #[.int .i64 lim, .slice A n c, .int .i64 tk, .bool cl], .agg #[.int .u8 kb, .slice X mx cx, .int .i64 N, .int .u8 y]] w fun e w' => ∃ (A1 : Option Addr) (n1 c1 tk1 : Nat) (cl1 : Bool) (Ab : Option Addr) (nb cb : Nat) (E : Int), e = .returned (.tuple #[.agg #[.int .i64 lim, .slice A1 n1 c1, .int .i64 tk1, .bool cl1], .slice Ab nb cb, .int .i64 E]) ∧ (∃ W W1, Below w.heap.size w W ∧ R A1 n1 c1 tk1 cl1 Ab nb cb E W W1 ∧ w.heap.size + 1 + 1 < W.heap.size ∧ Only (fun k => k = w.heap.size + 1 + 1) W1 w' ∧ Below w.heap.size w w') := by
  have C24 := Lib.hid (fun W => kind_any (X := X) (mx := mx) (cx := cx) (N := N) (y := y) kb h0 h1 _ hK W)
  have HC := Lib.hid hc
  obtain ⟨w0, hw0⟩ : ∃ w0, (((w.alloc (.cells #[.int .i64 lim, .slice A n c, .int .i64 tk, .bool cl] 37)).alloc (.cells #[.int .u8 kb, .slice X mx cx, .int .i64 N, .int .u8 y] 53)).alloc (.cells #[.int .i64 0, .slice none 0 0, .int .i64 0, .bool false] 37)) = w0 := ⟨_, rfl⟩
  have HW := Lib.hid (show WantW w w0 lim n c A tk cl kb X mx cx N y from hw0 ▸ WantW.first w)
  have HW0 := Lib.hid hw0
  clear hc hK h0 h1 hw0
  go_enter Try.func37, Try.ntmps37
  go_wp2_with (first
    | (go_at_call 24; rw [HW0.out]; (with_reducible refine (C24.out _).mono ?_); rintro e w1 ⟨rfl, b1⟩; have HW1 := Lib.hid (HW.out.mono b1); obtain ⟨a0, a1, a2, a3⟩ := foura _ _ _ _ _ _ _ HW1.out.k1; obtain ⟨b0, b1, b2, b3⟩ := foura _ _ _ _ _ _ _ HW1.out.k2; obtain ⟨c0, c1, c2, c3⟩ := foura _ _ _ _ _ _ _ HW1.out.k3; obtain ⟨z0, z1, z2, z3⟩ := fourz _ _ _ _ _ _ HW1.out.k3)
    | (go_at_call 43; (with_reducible refine (HC.out _ HW1.out.below).mono ?_); rintro e w2 ⟨A1, n1, c9, tk1, cl1, E1, rfl, r1, b9⟩; have HB9 := Lib.hid b9; have HR := Lib.hid r1; have HW2 := Lib.hid (HW1.out.mono b9); have HW3 := Lib.hid (HW2.out.mono ((Below.refl _ w2).alloc (Nat.le_refl _) (.cells #[.int .i64 lim, .slice A1 n1 c9, .int .i64 tk1, .bool cl1] 37))); clear r1 b9 a0 a1 a2 a3 b0 b1 b2 b3 c0 c1 c2 c3 z0 z1 z2 z3; obtain ⟨a0, a1, a2, a3⟩ := foura _ _ _ _ _ _ _ HW2.out.k1; obtain ⟨c0, c1, c2, c3⟩ := foura _ _ _ _ _ _ _ HW3.out.k3; obtain ⟨z0, z1, z2, z3⟩ := fourz _ _ _ _ _ _ HW3.out.k3))
  obtain ⟨Wf, hWf⟩ : ∃ Wf, (((((w2.alloc (.cells #[.int .i64 lim, .slice A1 n1 c9, .int .i64 tk1, .bool cl1] 37)).setCell ⟨w.heap.size + 1 + 1, 0, none⟩ (.int .i64 lim)).setCell ⟨w.heap.size + 1 + 1, 1, none⟩ (.slice A1 n1 c9)).setCell ⟨w.heap.size + 1 + 1, 2, none⟩ (.int .i64 tk1)).setCell ⟨w.heap.size + 1 + 1, 3, none⟩ (.bool cl1)) = Wf := ⟨_, rfl⟩
  obtain ⟨hf, hbf⟩ := set4w HW3.out.k3 HW3.out.below (by omega) _ _ _ _ Wf hWf
  have hbz : Only (fun k => k = w.heap.size + 1 + 1) w2 Wf := hWf ▸ Only.set (Only.set (Only.set (Only.set (Only.of_below (p := fun k => k = w.heap.size + 1 + 1) ((Below.refl _ w2).alloc (Nat.le_refl _) _)) (fun _ => rfl) 0 _) (fun _ => rfl) 1 _) (fun _ => rfl) 2 _) (fun _ => rfl) 3 _
  rw [hWf]
  exact bodyPost_ret (v := .tuple #[.agg #[.int .i64 lim, .slice A1 n1 c9, .int .i64 tk1, .bool cl1], .slice none 0 0, .int .i64 E1]) (by exact res3 (fn := Try.f37) (p := 4) (u := 5) (u2 := 6) rfl _ _ (w.heap.size + 1 + 1) _ rfl hf rfl) rfl ⟨A1, n1, c9, tk1, cl1, none, 0, 0, E1, rfl, w1, w2, HW1.out.below, HR.out, HW1.out.k3.lt, hbz, hbf⟩
set_option maxRecDepth 100000 in
set_option maxHeartbeats 1000000 in
theorem want_peek (h0 : 0 ≤ kb) (h1 : kb < 256) (hK : kb % 7 = 1) (R : Option Addr → Nat → Nat → Nat → Bool → Option Addr → Nat → Nat → Int → World → World → Prop) (hc : ∀ W, Below w.heap.size w W → Calls Try.prog 44 #[.agg #[.int .i64 lim, .slice A n c, .int .i64 tk, .bool cl], .int .i64 N] W fun e w' => ∃ Ab nb cb E, e = .returned (.tuple #[.slice Ab nb cb, .int .i64 E]) ∧ R A n c tk cl Ab nb cb E W w' ∧ Below W.heap.size W w') :
    Calls Try.prog 37 #[.agg #[.int .i64 lim, .slice A n c, .int .i64 tk, .bool cl], .agg #[.int .u8 kb, .slice X mx cx, .int .i64 N, .int .u8 y]] w fun e w' => ∃ (A1 : Option Addr) (n1 c1 tk1 : Nat) (cl1 : Bool) (Ab : Option Addr) (nb cb : Nat) (E : Int), e = .returned (.tuple #[.agg #[.int .i64 lim, .slice A1 n1 c1, .int .i64 tk1, .bool cl1], .slice Ab nb cb, .int .i64 E]) ∧ (∃ W W1, Below w.heap.size w W ∧ R A1 n1 c1 tk1 cl1 Ab nb cb E W W1 ∧ w.heap.size + 1 + 1 < W.heap.size ∧ Only (fun k => k = w.heap.size + 1 + 1) W1 w' ∧ Below w.heap.size w w') := by
  have C24 := Lib.hid (fun W => kind_any (X := X) (mx := mx) (cx := cx) (N := N) (y := y) kb h0 h1 _ hK W)
  have HC := Lib.hid hc
  obtain ⟨w0, hw0⟩ : ∃ w0, (((w.alloc (.cells #[.int .i64 lim, .slice A n c, .int .i64 tk, .bool cl] 37)).alloc (.cells #[.int .u8 kb, .slice X mx cx, .int .i64 N, .int .u8 y] 53)).alloc (.cells #[.int .i64 0, .slice none 0 0, .int .i64 0, .bool false] 37)) = w0 := ⟨_, rfl⟩
  have HW := Lib.hid (show WantW w w0 lim n c A tk cl kb X mx cx N y from hw0 ▸ WantW.first w)
  have HW0 := Lib.hid hw0
  clear hc hK h0 h1 hw0
  go_enter Try.func37, Try.ntmps37
  go_wp2_with (first
    | (go_at_call 24; rw [HW0.out]; (with_reducible refine (C24.out _).mono ?_); rintro e w1 ⟨rfl, b1⟩; have HW1 := Lib.hid (HW.out.mono b1); obtain ⟨a0, a1, a2, a3⟩ := foura _ _ _ _ _ _ _ HW1.out.k1; obtain ⟨b0, b1, b2, b3⟩ := foura _ _ _ _ _ _ _ HW1.out.k2; obtain ⟨c0, c1, c2, c3⟩ := foura _ _ _ _ _ _ _ HW1.out.k3; obtain ⟨z0, z1, z2, z3⟩ := fourz _ _ _ _ _ _ HW1.out.k3)
    | (go_at_call 44; (with_reducible refine (HC.out _ HW1.out.below).mono ?_); rintro e w2 ⟨Ab, nb, cb, E1, rfl, r1, b9⟩; have HB9 := Lib.hid b9; have HR := Lib.hid r1; have HW2 := Lib.hid (HW1.out.mono b9); have HW3 := Lib.hid (HW2.out); clear r1 b9 a0 a1 a2 a3 b0 b1 b2 b3 c0 c1 c2 c3 z0 z1 z2 z3; obtain ⟨a0, a1, a2, a3⟩ := foura _ _ _ _ _ _ _ HW2.out.k1; obtain ⟨c0, c1, c2, c3⟩ := foura _ _ _ _ _ _ _ HW3.out.k3; obtain ⟨z0, z1, z2, z3⟩ := fourz _ _ _ _ _ _ HW3.out.k3))
  obtain ⟨Wf, hWf⟩ : ∃ Wf, ((((w2.setCell ⟨w.heap.size + 1 + 1, 0, none⟩ (.int .i64 lim)).setCell ⟨w.heap.size + 1 + 1, 1, none⟩ (.slice A n c)).setCell ⟨w.heap.size + 1 + 1, 2, none⟩ (.int .i64 tk)).setCell ⟨w.heap.size + 1 + 1, 3, none⟩ (.bool cl)) = Wf := ⟨_, rfl⟩
  obtain ⟨hf, hbf⟩ := set4w HW3.out.k3 HW3.out.below (by omega) _ _ _ _ Wf hWf
  have hbz : Only (fun k => k = w.heap.size + 1 + 1) w2 Wf := hWf ▸ Only.set (Only.set (Only.set (Only.set (Only.of_below (p := fun k => k = w.heap.size + 1 + 1) (Below.refl _ w2)) (fun _ => rfl) 0 _) (fun _ => rfl) 1 _) (fun _ => rfl) 2 _) (fun _ => rfl) 3 _
  rw [hWf]
  exact bodyPost_ret (v := .tuple #[.agg #[.int .i64 lim, .slice A n c, .int .i64 tk, .bool cl], .slice Ab nb cb, .int .i64 E1]) (by exact res3 (fn := Try.f37) (p := 4) (u := 5) (u2 := 6) rfl _ _ (w.heap.size + 1 + 1) _ rfl hf rfl) rfl ⟨A, n, c, tk, cl, Ab, nb, cb, E1, rfl, w1, w2, HW1.out.below, HR.out, HW1.out.k3.lt, hbz, hbf⟩
set_option maxRecDepth 100000 in
set_option maxHeartbeats 1000000 in
theorem want_take (h0 : 0 ≤ kb) (h1 : kb < 256) (hK : kb % 7 = 2) (R : Option Addr → Nat → Nat → Nat → Bool → Option Addr → Nat → Nat → Int → World → World → Prop) (hc : ∀ W, Below w.heap.size w W → Calls Try.prog 45 #[.agg #[.int .i64 lim, .slice A n c, .int .i64 tk, .bool cl], .int .i64 N] W fun e w' => ∃ (A1 : Option Addr) (n1 c1 tk1 : Nat) (cl1 : Bool) (Ab : Option Addr) (nb cb : Nat) (E : Int), e = .returned (.tuple #[.agg #[.int .i64 lim, .slice A1 n1 c1, .int .i64 tk1, .bool cl1], .slice Ab nb cb, .int .i64 E]) ∧ R A1 n1 c1 tk1 cl1 Ab nb cb E W w' ∧ Below W.heap.size W w') :
    Calls Try.prog 37 #[.agg #[.int .i64 lim, .slice A n c, .int .i64 tk, .bool cl], .agg #[.int .u8 kb, .slice X mx cx, .int .i64 N, .int .u8 y]] w fun e w' => ∃ (A1 : Option Addr) (n1 c1 tk1 : Nat) (cl1 : Bool) (Ab : Option Addr) (nb cb : Nat) (E : Int), e = .returned (.tuple #[.agg #[.int .i64 lim, .slice A1 n1 c1, .int .i64 tk1, .bool cl1], .slice Ab nb cb, .int .i64 E]) ∧ (∃ W W1, Below w.heap.size w W ∧ R A1 n1 c1 tk1 cl1 Ab nb cb E W W1 ∧ w.heap.size + 1 + 1 < W.heap.size ∧ Only (fun k => k = w.heap.size + 1 + 1) W1 w' ∧ Below w.heap.size w w') := by
  have C24 := Lib.hid (fun W => kind_any (X := X) (mx := mx) (cx := cx) (N := N) (y := y) kb h0 h1 _ hK W)
  have HC := Lib.hid hc
  obtain ⟨w0, hw0⟩ : ∃ w0, (((w.alloc (.cells #[.int .i64 lim, .slice A n c, .int .i64 tk, .bool cl] 37)).alloc (.cells #[.int .u8 kb, .slice X mx cx, .int .i64 N, .int .u8 y] 53)).alloc (.cells #[.int .i64 0, .slice none 0 0, .int .i64 0, .bool false] 37)) = w0 := ⟨_, rfl⟩
  have HW := Lib.hid (show WantW w w0 lim n c A tk cl kb X mx cx N y from hw0 ▸ WantW.first w)
  have HW0 := Lib.hid hw0
  clear hc hK h0 h1 hw0
  go_enter Try.func37, Try.ntmps37
  go_wp2_with (first
    | (go_at_call 24; rw [HW0.out]; (with_reducible refine (C24.out _).mono ?_); rintro e w1 ⟨rfl, b1⟩; have HW1 := Lib.hid (HW.out.mono b1); obtain ⟨a0, a1, a2, a3⟩ := foura _ _ _ _ _ _ _ HW1.out.k1; obtain ⟨b0, b1, b2, b3⟩ := foura _ _ _ _ _ _ _ HW1.out.k2; obtain ⟨c0, c1, c2, c3⟩ := foura _ _ _ _ _ _ _ HW1.out.k3; obtain ⟨z0, z1, z2, z3⟩ := fourz _ _ _ _ _ _ HW1.out.k3)
    | (go_at_call 45; (with_reducible refine (HC.out _ HW1.out.below).mono ?_); rintro e w2 ⟨A1, n1, c9, tk1, cl1, Ab, nb, cb, E1, rfl, r1, b9⟩; have HB9 := Lib.hid b9; have HR := Lib.hid r1; have HW2 := Lib.hid (HW1.out.mono b9); have HW3 := Lib.hid (HW2.out); clear r1 b9 a0 a1 a2 a3 b0 b1 b2 b3 c0 c1 c2 c3 z0 z1 z2 z3; obtain ⟨a0, a1, a2, a3⟩ := foura _ _ _ _ _ _ _ HW2.out.k1; obtain ⟨c0, c1, c2, c3⟩ := foura _ _ _ _ _ _ _ HW3.out.k3; obtain ⟨z0, z1, z2, z3⟩ := fourz _ _ _ _ _ _ HW3.out.k3))
  obtain ⟨Wf, hWf⟩ : ∃ Wf, ((((w2.setCell ⟨w.heap.size + 1 + 1, 0, none⟩ (.int .i64 lim)).setCell ⟨w.heap.size + 1 + 1, 1, none⟩ (.slice A1 n1 c9)).setCell ⟨w.heap.size + 1 + 1, 2, none⟩ (.int .i64 tk1)).setCell ⟨w.heap.size + 1 + 1, 3, none⟩ (.bool cl1)) = Wf := ⟨_, rfl⟩
  obtain ⟨hf, hbf⟩ := set4w HW3.out.k3 HW3.out.below (by omega) _ _ _ _ Wf hWf
  have hbz : Only (fun k => k = w.heap.size + 1 + 1) w2 Wf := hWf ▸ Only.set (Only.set (Only.set (Only.set (Only.of_below (p := fun k => k = w.heap.size + 1 + 1) (Below.refl _ w2)) (fun _ => rfl) 0 _) (fun _ => rfl) 1 _) (fun _ => rfl) 2 _) (fun _ => rfl) 3 _
  rw [hWf]
  exact bodyPost_ret (v := .tuple #[.agg #[.int .i64 lim, .slice A1 n1 c9, .int .i64 tk1, .bool cl1], .slice Ab nb cb, .int .i64 E1]) (by exact res3 (fn := Try.f37) (p := 4) (u := 5) (u2 := 6) rfl _ _ (w.heap.size + 1 + 1) _ rfl hf rfl) rfl ⟨A1, n1, c9, tk1, cl1, Ab, nb, cb, E1, rfl, w1, w2, HW1.out.below, HR.out, HW1.out.k3.lt, hbz, hbf⟩
set_option maxRecDepth 100000 in
set_option maxHeartbeats 1000000 in
theorem want_skip (h0 : 0 ≤ kb) (h1 : kb < 256) (hK : kb % 7 = 3) (R : Option Addr → Nat → Nat → Nat → Bool → Option Addr → Nat → Nat → Int → World → World → Prop) (hc : ∀ W, Below w.heap.size w W → Calls Try.prog 45 #[.agg #[.int .i64 lim, .slice A n c, .int .i64 tk, .bool cl], .int .i64 N] W fun e w' => ∃ (A1 : Option Addr) (n1 c1 tk1 : Nat) (cl1 : Bool) (Ab : Option Addr) (nb cb : Nat) (E : Int), e = .returned (.tuple #[.agg #[.int .i64 lim, .slice A1 n1 c1, .int .i64 tk1, .bool cl1], .slice Ab nb cb, .int .i64 E]) ∧ R A1 n1 c1 tk1 cl1 Ab nb cb E W w' ∧ Below W.heap.size W w') :
    Calls Try.prog 37 #[.agg #[.int .i64 lim, .slice A n c, .int .i64 tk, .bool cl], .agg #[.int .u8 kb, .slice X mx cx, .int .i64 N, .int .u8 y]] w fun e w' => ∃ (A1 : Option Addr) (n1 c1 tk1 : Nat) (cl1 : Bool) (Ab : Option Addr) (nb cb : Nat) (E : Int), e = .returned (.tuple #[.agg #[.int .i64 lim, .slice A1 n1 c1, .int .i64 tk1, .bool cl1], .slice none 0 0, .int .i64 E]) ∧ (∃ W W1, Below w.heap.size w W ∧ R A1 n1 c1 tk1 cl1 Ab nb cb E W W1 ∧ w.heap.size + 1 + 1 < W.heap.size ∧ Only (fun k => k = w.heap.size + 1 + 1) W1 w' ∧ Below w.heap.size w w') := by
  have C24 := Lib.hid (fun W => kind_any (X := X) (mx := mx) (cx := cx) (N := N) (y := y) kb h0 h1 _ hK W)
  have HC := Lib.hid hc
  obtain ⟨w0, hw0⟩ : ∃ w0, (((w.alloc (.cells #[.int .i64 lim, .slice A n c, .int .i64 tk, .bool cl] 37)).alloc (.cells #[.int .u8 kb, .slice X mx cx, .int .i64 N, .int .u8 y] 53)).alloc (.cells #[.int .i64 0, .slice none 0 0, .int .i64 0, .bool false] 37)) = w0 := ⟨_, rfl⟩
  have HW := Lib.hid (show WantW w w0 lim n c A tk cl kb X mx cx N y from hw0 ▸ WantW.first w)
  have HW0 := Lib.hid hw0
  clear hc hK h0 h1 hw0
  go_enter Try.func37, Try.ntmps37
  go_wp2_with (first
    | (go_at_call 24; rw [HW0.out]; (with_reducible refine (C24.out _).mono ?_); rintro e w1 ⟨rfl, b1⟩; have HW1 := Lib.hid (HW.out.mono b1); obtain ⟨a0, a1, a2, a3⟩ := foura _ _ _ _ _ _ _ HW1.out.k1; obtain ⟨b0, b1, b2, b3⟩ := foura _ _ _ _ _ _ _ HW1.out.k2; obtain ⟨c0, c1, c2, c3⟩ := foura _ _ _ _ _ _ _ HW1.out.k3; obtain ⟨z0, z1, z2, z3⟩ := fourz _ _ _ _ _ _ HW1.out.k3)
    | (go_at_call 45; (with_reducible refine (HC.out _ HW1.out.below).mono ?_); rintro e w2 ⟨A1, n1, c9, tk1, cl1, Ab, nb, cb, E1, rfl, r1, b9⟩; have HB9 := Lib.hid b9; have HR := Lib.hid r1; have HW2 := Lib.hid (HW1.out.mono b9); have HW3 := Lib.hid (HW2.out.mono ((Below.refl _ w2).alloc (Nat.le_refl _) (.cells #[.int .i64 lim, .slice A1 n1 c9, .int .i64 tk1, .bool cl1] 37))); clear r1 b9 a0 a1 a2 a3 b0 b1 b2 b3 c0 c1 c2 c3 z0 z1 z2 z3; obtain ⟨a0, a1, a2, a3⟩ := foura _ _ _ _ _ _ _ HW2.out.k1; obtain ⟨c0, c1, c2, c3⟩ := foura _ _ _ _ _ _ _ HW3.out.k3; obtain ⟨z0, z1, z2, z3⟩ := fourz _ _ _ _ _ _ HW3.out.k3))
  obtain ⟨Wf, hWf⟩ : ∃ Wf, (((((w2.alloc (.cells #[.int .i64 lim, .slice A1 n1 c9, .int .i64 tk1, .bool cl1] 37)).setCell ⟨w.heap.size + 1 + 1, 0, none⟩ (.int .i64 lim)).setCell ⟨w.heap.size + 1 + 1, 1, none⟩ (.slice A1 n1 c9)).setCell ⟨w.heap.size + 1 + 1, 2, none⟩ (.int .i64 tk1)).setCell ⟨w.heap.size + 1 + 1, 3, none⟩ (.bool cl1)) = Wf := ⟨_, rfl⟩
  obtain ⟨hf, hbf⟩ := set4w HW3.out.k3 HW3.out.below (by omega) _ _ _ _ Wf hWf
  have hbz : Only (fun k => k = w.heap.size + 1 + 1) w2 Wf := hWf ▸ Only.set (Only.set (Only.set (Only.set (Only.of_below (p := fun k => k = w.heap.size + 1 + 1) ((Below.refl _ w2).alloc (Nat.le_refl _) _)) (fun _ => rfl) 0 _) (fun _ => rfl) 1 _) (fun _ => rfl) 2 _) (fun _ => rfl) 3 _
  rw [hWf]
  exact bodyPost_ret (v := .tuple #[.agg #[.int .i64 lim, .slice A1 n1 c9, .int .i64 tk1, .bool cl1], .slice none 0 0, .int .i64 E1]) (by exact res3 (fn := Try.f37) (p := 4) (u := 5) (u2 := 6) rfl _ _ (w.heap.size + 1 + 1) _ rfl hf rfl) rfl ⟨A1, n1, c9, tk1, cl1, Ab, nb, cb, E1, rfl, w1, w2, HW1.out.below, HR.out, HW1.out.k3.lt, hbz, hbf⟩
set_option maxRecDepth 100000 in
set_option maxHeartbeats 1000000 in
theorem want_until (h0 : 0 ≤ kb) (h1 : kb < 256) (hK : kb % 7 = 4) (R : Option Addr → Nat → Nat → Nat → Bool → Option Addr → Nat → Nat → Int → World → World → Prop) (hc : ∀ W, Below w.heap.size w W → Calls Try.prog 46 #[.agg #[.int .i64 lim, .slice A n c, .int .i64 tk, .bool cl], .int .u8 y, .int .i64 N] W fun e w' => ∃ (A1 : Option Addr) (n1 c1 tk1 : Nat) (cl1 : Bool) (Ab : Option Addr) (nb cb : Nat) (E : Int), e = .returned (.tuple #[.agg #[.int .i64 lim, .slice A1 n1 c1, .int .i64 tk1, .bool cl1], .slice Ab nb cb, .int .i64 E]) ∧ R A1 n1 c1 tk1 cl1 Ab nb cb E W w' ∧ Below W.heap.size W w') :
    Calls Try.prog 37 #[.agg #[.int .i64 lim, .slice A n c, .int .i64 tk, .bool cl], .agg #[.int .u8 kb, .slice X mx cx, .int .i64 N, .int .u8 y]] w fun e w' => ∃ (A1 : Option Addr) (n1 c1 tk1 : Nat) (cl1 : Bool) (Ab : Option Addr) (nb cb : Nat) (E : Int), e = .returned (.tuple #[.agg #[.int .i64 lim, .slice A1 n1 c1, .int .i64 tk1, .bool cl1], .slice Ab nb cb, .int .i64 E]) ∧ (∃ W W1, Below w.heap.size w W ∧ R A1 n1 c1 tk1 cl1 Ab nb cb E W W1 ∧ w.heap.size + 1 + 1 < W.heap.size ∧ Only (fun k => k = w.heap.size + 1 + 1) W1 w' ∧ Below w.heap.size w w') := by
  have C24 := Lib.hid (fun W => kind_any (X := X) (mx := mx) (cx := cx) (N := N) (y := y) kb h0 h1 _ hK W)
  have HC := Lib.hid hc
  obtain ⟨w0, hw0⟩ : ∃ w0, (((w.alloc (.cells #[.int .i64 lim, .slice A n c, .int .i64 tk, .bool cl] 37)).alloc (.cells #[.int .u8 kb, .slice X mx cx, .int .i64 N, .int .u8 y] 53)).alloc (.cells #[.int .i64 0, .slice none 0 0, .int .i64 0, .bool false] 37)) = w0 := ⟨_, rfl⟩
  have HW := Lib.hid (show WantW w w0 lim n c A tk cl kb X mx cx N y from hw0 ▸ WantW.first w)
  have HW0 := Lib.hid hw0
  clear hc hK h0 h1 hw0
  go_enter Try.func37, Try.ntmps37
  go_wp2_with (first
    | (go_at_call 24; rw [HW0.out]; (with_reducible refine (C24.out _).mono ?_); rintro e w1 ⟨rfl, b1⟩; have HW1 := Lib.hid (HW.out.mono b1); obtain ⟨a0, a1, a2, a3⟩ := foura _ _ _ _ _ _ _ HW1.out.k1; obtain ⟨b0, b1, b2, b3⟩ := foura _ _ _ _ _ _ _ HW1.out.k2; obtain ⟨c0, c1, c2, c3⟩ := foura _ _ _ _ _ _ _ HW1.out.k3; obtain ⟨z0, z1, z2, z3⟩ := fourz _ _ _ _ _ _ HW1.out.k3)
    | (go_at_call 46; (with_reducible refine (HC.out _ HW1.out.below).mono ?_); rintro e w2 ⟨A1, n1, c9, tk1, cl1, Ab, nb, cb, E1, rfl, r1, b9⟩; have HB9 := Lib.hid b9; have HR := Lib.hid r1; have HW2 := Lib.hid (HW1.out.mono b9); have HW3 := Lib.hid (HW2.out); clear r1 b9 a0 a1 a2 a3 b0 b1 b2 b3 c0 c1 c2 c3 z0 z1 z2 z3; obtain ⟨a0, a1, a2, a3⟩ := foura _ _ _ _ _ _ _ HW2.out.k1; obtain ⟨c0, c1, c2, c3⟩ := foura _ _ _ _ _ _ _ HW3.out.k3; obtain ⟨z0, z1, z2, z3⟩ := fourz _ _ _ _ _ _ HW3.out.k3))
  obtain ⟨Wf, hWf⟩ : ∃ Wf, ((((w2.setCell ⟨w.heap.size + 1 + 1, 0, none⟩ (.int .i64 lim)).setCell ⟨w.heap.size + 1 + 1, 1, none⟩ (.slice A1 n1 c9)).setCell ⟨w.heap.size + 1 + 1, 2, none⟩ (.int .i64 tk1)).setCell ⟨w.heap.size + 1 + 1, 3, none⟩ (.bool cl1)) = Wf := ⟨_, rfl⟩
  obtain ⟨hf, hbf⟩ := set4w HW3.out.k3 HW3.out.below (by omega) _ _ _ _ Wf hWf
  have hbz : Only (fun k => k = w.heap.size + 1 + 1) w2 Wf := hWf ▸ Only.set (Only.set (Only.set (Only.set (Only.of_below (p := fun k => k = w.heap.size + 1 + 1) (Below.refl _ w2)) (fun _ => rfl) 0 _) (fun _ => rfl) 1 _) (fun _ => rfl) 2 _) (fun _ => rfl) 3 _
  rw [hWf]
  exact bodyPost_ret (v := .tuple #[.agg #[.int .i64 lim, .slice A1 n1 c9, .int .i64 tk1, .bool cl1], .slice Ab nb cb, .int .i64 E1]) (by exact res3 (fn := Try.f37) (p := 4) (u := 5) (u2 := 6) rfl _ _ (w.heap.size + 1 + 1) _ rfl hf rfl) rfl ⟨A1, n1, c9, tk1, cl1, Ab, nb, cb, E1, rfl, w1, w2, HW1.out.below, HR.out, HW1.out.k3.lt, hbz, hbf⟩
set_option maxRecDepth 100000 in
set_option maxHeartbeats 1000000 in
theorem want_close (h0 : 0 ≤ kb) (h1 : kb < 256) (hK : kb % 7 = 6) (R : Option Addr → Nat → Nat → Nat → Bool → Option Addr → Nat → Nat → Int → World → World → Prop) (hc : ∀ W, Below w.heap.size w W → Calls Try.prog 47 #[.agg #[.int .i64 lim, .slice A n c, .int .i64 tk, .bool cl]] W fun e w' => ∃ (A1 : Option Addr) (n1 c1 tk1 : Nat) (cl1 : Bool) (E : Int), e = .returned (.tuple #[.agg #[.int .i64 lim, .slice A1 n1 c1, .int .i64 tk1, .bool cl1], .int .i64 E]) ∧ R A1 n1 c1 tk1 cl1 none 0 0 E W w' ∧ Below W.heap.size W w') :
    Calls Try.prog 37 #[.agg #[.int .i64 lim, .slice A n c, .int .i64 tk, .bool cl], .agg #[.int .u8 kb, .slice X mx cx, .int .i64 N, .int .u8 y]] w fun e w' => ∃ (A1 : Option Addr) (n1 c1 tk1 : Nat) (cl1 : Bool) (Ab : Option Addr) (nb cb : Nat) (E : Int), e = .returned (.tuple #[.agg #[.int .i64 lim, .slice A1 n1 c1, .int .i64 tk1, .bool cl1], .slice Ab nb cb, .int .i64 E]) ∧ (∃ W W1, Below w.heap.size w W ∧ R A1 n1 c1 tk1 cl1 Ab nb cb E W W1 ∧ w.heap.size + 1 + 1 < W.heap.size ∧ Only (fun k => k = w.heap.size + 1 + 1) W1 w' ∧ Below w.heap.size w w') := by
  have C24 := Lib.hid (fun W => kind_any (X := X) (mx := mx) (cx := cx) (N := N) (y := y) kb h0 h1 _ hK W)
  have HC := Lib.hid hc
  obtain ⟨w0, hw0⟩ : ∃ w0, (((w.alloc (.cells #[.int .i64 lim, .slice A n c, .int .i64 tk, .bool cl] 37)).alloc (.cells #[.int .u8 kb, .slice X mx cx, .int .i64 N, .int .u8 y] 53)).alloc (.cells #[.int .i64 0, .slice none 0 0, .int .i64 0, .bool false] 37)) = w0 := ⟨_, rfl⟩
  have HW := Lib.hid (show WantW w w0 lim n c A tk cl kb X mx cx N y from hw0 ▸ WantW.first w)
  have HW0 := Lib.hid hw0
  clear hc hK h0 h1 hw0
  go_enter Try.func37, Try.ntmps37
  go_wp2_with (first
    | (go_at_call 24; rw [HW0.out]; (with_reducible refine (C24.out _).mono ?_); rintro e w1 ⟨rfl, b1⟩; have HW1 := Lib.hid (HW.out.mono b1); obtain ⟨a0, a1, a2, a3⟩ := foura _ _ _ _ _ _ _ HW1.out.k1; obtain ⟨b0, b1, b2, b3⟩ := foura _ _ _ _ _ _ _ HW1.out.k2; obtain ⟨c0, c1, c2, c3⟩ := foura _ _ _ _ _ _ _ HW1.out.k3; obtain ⟨z0, z1, z2, z3⟩ := fourz _ _ _ _ _ _ HW1.out.k3)
    | (go_at_call 47; (with_reducible refine (HC.out _ HW1.out.below).mono ?_); rintro e w2 ⟨A1, n1, c9, tk1, cl1, E1, rfl, r1, b9⟩; have HB9 := Lib.hid b9; have HR := Lib.hid r1; have HW2 := Lib.hid (HW1.out.mono b9); have HW3 := Lib.hid (HW2.out.mono ((Below.refl _ w2).alloc (Nat.le_refl _) (.cells #[.int .i64 lim, .slice A1 n1 c9, .int .i64 tk1, .bool cl1] 37))); clear r1 b9 a0 a1 a2 a3 b0 b1 b2 b3 c0 c1 c2 c3 z0 z1 z2 z3; obtain ⟨a0, a1, a2, a3⟩ := foura _ _ _ _ _ _ _ HW2.out.k1; obtain ⟨c0, c1, c2, c3⟩ := foura _ _ _ _ _ _ _ HW3.out.k3; obtain ⟨z0, z1, z2, z3⟩ := fourz _ _ _ _ _ _ HW3.out.k3))
  obtain ⟨Wf, hWf⟩ : ∃ Wf, (((((w2.alloc (.cells #[.int .i64 lim, .slice A1 n1 c9, .int .i64 tk1, .bool cl1] 37)).setCell ⟨w.heap.size + 1 + 1, 0, none⟩ (.int .i64 lim)).setCell ⟨w.heap.size + 1 + 1, 1, none⟩ (.slice A1 n1 c9)).setCell ⟨w.heap.size + 1 + 1, 2, none⟩ (.int .i64 tk1)).setCell ⟨w.heap.size + 1 + 1, 3, none⟩ (.bool cl1)) = Wf := ⟨_, rfl⟩
  obtain ⟨hf, hbf⟩ := set4w HW3.out.k3 HW3.out.below (by omega) _ _ _ _ Wf hWf
  have hbz : Only (fun k => k = w.heap.size + 1 + 1) w2 Wf := hWf ▸ Only.set (Only.set (Only.set (Only.set (Only.of_below (p := fun k => k = w.heap.size + 1 + 1) ((Below.refl _ w2).alloc (Nat.le_refl _) _)) (fun _ => rfl) 0 _) (fun _ => rfl) 1 _) (fun _ => rfl) 2 _) (fun _ => rfl) 3 _
  rw [hWf]
  exact bodyPost_ret (v := .tuple #[.agg #[.int .i64 lim, .slice A1 n1 c9, .int .i64 tk1, .bool cl1], .slice none 0 0, .int .i64 E1]) (by exact res3 (fn := Try.f37) (p := 4) (u := 5) (u2 := 6) rfl _ _ (w.heap.size + 1 + 1) _ rfl hf rfl) rfl ⟨A1, n1, c9, tk1, cl1, none, 0, 0, E1, rfl, w1, w2, HW1.out.below, HR.out, HW1.out.k3.lt, hbz, hbf⟩
set_option maxRecDepth 100000 in
set_option maxHeartbeats 1000000 in
theorem want_alone (h0 : 0 ≤ kb) (h1 : kb < 256) (hK : kb % 7 = 5) :
    Calls Try.prog 37 #[.agg #[.int .i64 lim, .slice A n c, .int .i64 tk, .bool cl], .agg #[.int .u8 kb, .slice X mx cx, .int .i64 N, .int .u8 y]] w fun e w' => e = .returned (.tuple #[.agg #[.int .i64 lim, .slice A n c, .int .i64 tk, .bool cl], .slice none 0 0, .int .i64 0]) ∧ Below w.heap.size w w' := by
  have C24 := Lib.hid (fun W => kind_any (X := X) (mx := mx) (cx := cx) (N := N) (y := y) kb h0 h1 _ hK W)
  obtain ⟨w0, hw0⟩ : ∃ w0, (((w.alloc (.cells #[.int .i64 lim, .slice A n c, .int .i64 tk, .bool cl] 37)).alloc (.cells #[.int .u8 kb, .slice X mx cx, .int .i64 N, .int .u8 y] 53)).alloc (.cells #[.int .i64 0, .slice none 0 0, .int .i64 0, .bool false] 37)) = w0 := ⟨_, rfl⟩
  have HW := Lib.hid (show WantW w w0 lim n c A tk cl kb X mx cx N y from hw0 ▸ WantW.first w)
  have HW0 := Lib.hid hw0
  clear hK h0 h1 hw0
  go_enter Try.func37, Try.ntmps37
  go_wp2_with (go_at_call 24; rw [HW0.out]; (with_reducible refine (C24.out _).mono ?_); rintro e w1 ⟨rfl, b1⟩; have HW1 := Lib.hid (HW.out.mono b1); obtain ⟨a0, a1, a2, a3⟩ := foura _ _ _ _ _ _ _ HW1.out.k1; obtain ⟨b0, b1, b2, b3⟩ := foura _ _ _ _ _ _ _ HW1.out.k2; obtain ⟨c0, c1, c2, c3⟩ := foura _ _ _ _ _ _ _ HW1.out.k3; obtain ⟨z0, z1, z2, z3⟩ := fourz _ _ _ _ _ _ HW1.out.k3)
  obtain ⟨Wf, hWf⟩ : ∃ Wf, ((((w1.setCell ⟨w.heap.size + 1 + 1, 0, none⟩ (.int .i64 lim)).setCell ⟨w.heap.size + 1 + 1, 1, none⟩ (.slice A n c)).setCell ⟨w.heap.size + 1 + 1, 2, none⟩ (.int .i64 tk)).setCell ⟨w.heap.size + 1 + 1, 3, none⟩ (.bool cl)) = Wf := ⟨_, rfl⟩
  obtain ⟨hf, hbf⟩ := set4w HW1.out.k3 HW1.out.below (by omega) _ _ _ _ Wf hWf
  rw [hWf]
  exact bodyPost_ret (v := .tuple #[.agg #[.int .i64 lim, .slice A n c, .int .i64 tk, .bool cl], .slice none 0 0, .int .i64 0]) (by exact res3 (fn := Try.f37) (p := 4) (u := 5) (u2 := 6) rfl _ _ (w.heap.size + 1 + 1) _ rfl hf rfl) rfl ⟨rfl, hbf⟩
end
end Go.Proofs.Ythkpmbgclllnjaa
