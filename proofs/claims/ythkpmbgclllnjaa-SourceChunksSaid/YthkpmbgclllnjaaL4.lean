/- The walk of SourcePlays. -/
import Derived.Test.YthkpmbgclllnjaaRn
import Derived.Test.YthkpmbgclllnjaaFit
import Derived.Test.YthkpmbgclllnjaaKn
namespace Go.Proofs.Ythkpmbgclllnjaa
open Go.RowKit
set_option linter.unusedVariables false
set_option linter.unusedSimpArgs false

theorem SS.lower {w : World} {B B' bs bt bb : Nat} {v : Value} {lim : Nat} {l : List UInt8} {tk : Nat} {cl : Bool} (h : SS w B bs bt bb v lim l tk cl) (hb : B' ≤ B) : SS w B' bs bt bb v lim l tk cl :=
  ⟨h.src, h.st, h.buf, own_base h.own hb, Nat.le_trans hb h.base, h.limB, h.lenB, h.tkB⟩
theorem RunO.below {w0 w w' : World} {bs bt bb : Nat} {v0 : Value} {lim n0 i : Nat} {A0 : Option Addr} {v : Value} {A : Option Addr} {n c : Nat} {all : List UInt8} {tk : Nat} {cl : Bool} (h : RunO w w' w0.heap.size bs bt bb v0 lim n0 i A0 v A n c all tk cl) (hb : Below w0.heap.size w0 w) (h1 : w0.heap.size ≤ bt) (h2 : w0.heap.size ≤ bb) (h3 : ∀ k, v0.ownBlock = some k → w0.heap.size ≤ k) : Below w0.heap.size w0 w' :=
  hb.trans (h.only.to_below hb.size fun b hb hs => by
    rcases hs with e | e | e
    · omega
    · omega
    · have := h3 b e; omega)

set_option maxRecDepth 100000 in
set_option maxHeartbeats 2000000 in
theorem plays_law (lim : Int) (L : Option Addr) (len cL : Nat) (f : Nat → ActV) (w : World) (_ : (Lit.int .i64 lim).wf = true) (hs : ActS w L len f) :
    Calls Try.prog 4 #[.int .i64 lim, .slice L len cL] w fun e w' => e = .returned (.bool true) ∧ Below w.heap.size w w' := by
  have F := Lib.hid (fits_any L len cL f w hs)
  have KN := Lib.hid (show ∀ W, Below w.heap.size w W → Calls Try.prog 8 #[] W (fun e w' => e = .returned (.bool true) ∧ Below w.heap.size w w') from fun W hb => (known_any W).mono fun e w' ⟨he, hb'⟩ => ⟨he, hb.trans (hb'.mono hb.size)⟩)
  have HS := Lib.hid hs
  clear hs
  go_enter Try.func4, Try.ntmps4
  go_wp2_with (go_at_call 15; (with_reducible refine F.out.mono ?_); rintro e w1 ⟨⟨t, rfl, ht⟩, rfl⟩; refine Hid.out ?_)
  refine Lib.hid ?_
  cases t
  · clear ht
    go_wp2_with (go_at_call 8; (with_reducible refine (KN.out _ (Below.refl _ _)).mono ?_); rintro e w9 ⟨rfl, b9⟩; have B9 := Lib.hid b9; clear b9)
    go_ret
    exact ⟨rfl, B9.out⟩
  obtain ⟨h60, hm⟩ := ht rfl
  have HM := Lib.hid (And.intro h60 hm)
  clear ht h60 hm
  by_cases hl : lim < 1 ∨ 1048576 < lim
  · have C9 := Lib.hid (new_bad lim w hl)
    have C16 := Lib.hid (fun W => rnew_bad lim W hl)
    clear hl
    go_wp2_with (first
      | (go_at_call 9; (with_reducible refine C9.out.mono ?_); rintro e w2 ⟨rfl, b2⟩; have B2 := Lib.hid b2; clear b2)
      | (go_at_call 16; (with_reducible refine (C16.out _).mono ?_); rintro e w3 ⟨rfl, b3⟩; have B3 := Lib.hid (B2.out.trans (b3.mono B2.out.size)); clear b3)
      | (go_at_call 8; (with_reducible refine (KN.out _ (B3.out.alloc B3.out.size _)).mono ?_); rintro e w9 ⟨rfl, b9⟩; have B9 := Lib.hid b9; clear b9))
    go_ret
    exact ⟨rfl, B9.out⟩
  · obtain ⟨n, rfl⟩ : ∃ n : Nat, lim = n := ⟨lim.toNat, by omega⟩
    have C9 := Lib.hid (new_ok n w (by omega) (by omega))
    have C16 := Lib.hid (fun W => rnew_ok n W (by omega) (by omega))
    clear hl
    go_wp2_with (first
      | (go_at_call 9; (with_reducible refine C9.out.mono ?_); rintro e w2 ⟨bs, bt, bb, rfl, s2, b2, h1, h2, h3⟩; have B2 := Lib.hid b2; have S2 := Lib.hid s2; have HG := Lib.hid (And.intro h2 h3); clear b2 s2 h1 h2 h3)
      | (go_at_call 16; (with_reducible refine (C16.out _).mono ?_); rintro e w3 ⟨rfl, b3⟩; have B3 := Lib.hid (B2.out.trans (b3.mono B2.out.size)); have S3 := Lib.hid (S2.out.below b3); clear b3; refine Hid.out ?_))
    refine Lib.hid ?_
    have HGa := Lib.hid (Blk.new w3 37 #[.int .i64 0, .slice none 0 0, .int .i64 0, .bool false])
    obtain ⟨t0, t1, t2, t3⟩ := four _ _ _ _ _ _ HGa.out
    obtain ⟨z0, z1, z2, z3⟩ := fourz _ _ _ _ _ _ HGa.out
    go_wp2_with fail
    clear t0 t1 t2 t3 z0 z1 z2 z3
    obtain ⟨w4, hw4⟩ : ∃ w4, w3.alloc (.cells #[.int .i64 n, .slice none 0 0, .int .i64 0, .bool false] 37) = w4 := ⟨_, rfl⟩
    have B4 := Lib.hid (show Below w.heap.size w w4 from hw4 ▸ B3.out.alloc B3.out.size _)
    have S4 := Lib.hid (show SS w4 w.heap.size bs bt bb (.slice none 0 0) n (([] : List UInt8).drop 0) 0 false from hw4 ▸ S3.out.below ((Below.refl _ _).alloc (Nat.le_refl _) _))
    have C17 := Lib.hid (show Calls Try.prog 17 #[.pointer (some ⟨bs, 0, none⟩), .agg #[.int .i64 n, .slice none 0 0, .int .i64 0, .bool false], .slice L len cL] w4 (RunP w4 w.heap.size bs bt bb (.slice none 0 0) n 0 len none) from run_any w w4 L len cL f HS.out HM.out.1 HM.out.2 B4.out S4.out HG.out.1 HG.out.2 (RB.nil _) (fun a ha => by cases ha) (Nat.le_refl _) (by omega) (fun a ha => by cases ha))
    rw [hw4]
    clear hw4
    (with_reducible refine C17.out.mono ?_); rintro e w5 ⟨A5, n5, c5, all5, tk5, cl5, v5, rfl, hro⟩
    have B5 := Lib.hid (hro.below B4.out HG.out.1 HG.out.2 (fun k hk => by cases hk))
    have HGb := Lib.hid (Blk.new w5 37 #[.int .i64 0, .slice none 0 0, .int .i64 0, .bool false])
    obtain ⟨t0, t1, t2, t3⟩ := four _ _ _ _ _ _ HGb.out
    obtain ⟨z0, z1, z2, z3⟩ := fourz _ _ _ _ _ _ HGb.out
    clear hro
    go_wp2_with (go_at_call 8; (with_reducible refine (KN.out _ (B5.out.alloc B5.out.size _)).mono ?_); rintro e w9 ⟨rfl, b9⟩; have B9 := Lib.hid b9; clear b9)
    go_ret
    exact ⟨rfl, B9.out⟩
end Go.Proofs.Ythkpmbgclllnjaa
