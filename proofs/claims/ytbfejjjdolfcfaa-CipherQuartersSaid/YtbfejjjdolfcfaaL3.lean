/- The walk of CipherQuarters. -/
import Derived.Test.YtbfejjjdolfcfaaKn
import Derived.Test.YtbfejjjdolfcfaaRq
namespace Go.Proofs.Ytbfejjjdolfcfaa
open Go.RowKit
set_option linter.unusedVariables false
set_option linter.unusedSimpArgs false

theorem u32_wf {x : Int} (h : (Lit.int .u32 x).wf = true) : 0 ≤ x ∧ x < 4294967296 := by
  simp [Lit.wf, IntKind.min, IntKind.max, IntKind.bits, IntKind.signed] at h
  omega

set_option maxRecDepth 100000 in
set_option maxHeartbeats 1000000 in
theorem quarters_law (ai bi ci di : Int) (w : World) (h0 : (Lit.int .u32 ai).wf = true) (h1 : (Lit.int .u32 bi).wf = true) (h2 : (Lit.int .u32 ci).wf = true) (h3 : (Lit.int .u32 di).wf = true) :
    Calls Try.prog 3 #[.int .u32 ai, .int .u32 bi, .int .u32 ci, .int .u32 di] w fun e w' => e = .returned (.bool true) ∧ Below w.heap.size w w' := by
  obtain ⟨a0, a1⟩ := u32_wf h0
  obtain ⟨b0, b1⟩ := u32_wf h1
  obtain ⟨c0, c1⟩ := u32_wf h2
  obtain ⟨d0, d1⟩ := u32_wf h3
  obtain ⟨a, rfl⟩ := Int.eq_ofNat_of_zero_le a0
  obtain ⟨b, rfl⟩ := Int.eq_ofNat_of_zero_le b0
  obtain ⟨c, rfl⟩ := Int.eq_ofNat_of_zero_le c0
  obtain ⟨d, rfl⟩ := Int.eq_ofNat_of_zero_le d0
  have hB : b < 4294967296 := by omega
  have hD : d < 4294967296 := by omega
  have c9 := fun W => quarter_any a b c d W (by omega) hB (by omega) hD
  have c10 := fun W => rquarter_any a b c d W (by omega) hB (by omega) hD
  have q0 : ((qA a b c d : Nat) : Int) < 4294967296 := by have := qA_lt a b c d; omega
  have q1 : ((qB a b c d : Nat) : Int) < 4294967296 := by have := qB_lt (a := a) (c := c) (d := d) hB; omega
  have q2 : ((qC a b c d : Nat) : Int) < 4294967296 := by have := qC_lt a b c d; omega
  have q3 : ((qD a b c d : Nat) : Int) < 4294967296 := by have := qD_lt (a := a) (b := b) (c := c) hD; omega
  simp only [tup4] at c9 c10
  generalize qA a b c d = x0 at *
  generalize qB a b c d = x1 at *
  generalize qC a b c d = x2 at *
  generalize qD a b c d = x3 at *
  have C9 := Lib.hid c9
  have C10 := Lib.hid c10
  clear c9 c10 h0 h1 h2 h3 hB hD
  go_enter Try.func3, Try.ntmps3
  go_wp2_with (first
    | (go_at_call 9; (with_reducible refine (C9.out _).mono ?_); rintro e w1 ⟨rfl, b1⟩; have B1 := Lib.hid b1; clear b1)
    | (go_at_call 10; (with_reducible refine (C10.out _).mono ?_); rintro e w2 ⟨rfl, b2⟩; have B2 := Lib.hid (B1.out.trans (b2.mono B1.out.size)); clear b2)
    | (go_at_call 11; (with_reducible refine (known_any _).mono ?_); rintro e w5 ⟨rfl, b5⟩; have B5 := Lib.hid (B2.out.trans (b5.mono B2.out.size)); clear b5))
  go_ret
  exact ⟨by simp, B5.out⟩
end Go.Proofs.Ytbfejjjdolfcfaa
