/- Two writers side by side. -/
import Derived.Test.YthgbnpafhkhjpaaJn
namespace Go.Proofs.Ythgbnpafhkhjpaa
open Go.RowKit
set_option linter.unusedVariables false
set_option linter.unusedSimpArgs false

/-- Two writers of the call's own, apart. -/
structure PW (w0 w : World) (ga gb : Nat) (va vb : Value) (xs bs : List Bool) : Prop where
  a : WS w w0.heap.size ga 63 [.bool true] va xs
  b : WS w w0.heap.size gb 63 [.bool true] vb bs
  la : w0.heap.size ≤ ga
  lb : w0.heap.size ≤ gb
  ne : ga ≠ gb
  sep : ∀ k, va.ownBlock = some k → vb.ownBlock ≠ some k
  below : Below w0.heap.size w0 w
theorem PW.symm {w0 w : World} {ga gb : Nat} {va vb : Value} {xs bs : List Bool} (h : PW w0 w ga gb va vb xs bs) : PW w0 w gb ga vb va bs xs :=
  ⟨h.b, h.a, h.lb, h.la, h.ne.symm, fun k h1 h2 => h.sep k h2 h1, h.below⟩
theorem PW.over {w0 w w' : World} {ga gb : Nat} {va vb : Value} {xs bs : List Bool} (h : PW w0 w ga gb va vb xs bs) (hb : Below w.heap.size w w') : PW w0 w' ga gb va vb xs bs :=
  ⟨h.a.below hb (Nat.le_refl _), h.b.below hb (Nat.le_refl _), h.la, h.lb, h.ne, h.sep, h.below.trans (hb.mono h.below.size)⟩
theorem PW.next {w0 w w' : World} {ga gb : Nat} {va va' vb : Value} {xs xs' bs : List Bool} (h : PW w0 w ga gb va vb xs bs) (hs : WS w' w0.heap.size ga 63 [.bool true] va' xs') (ht : Two ga va w w') (hh : Hat va va' w) : PW w0 w' ga gb va' vb xs' bs :=
  ⟨hs, h.b.two ht h.ne.symm (own_not_blk h.a.own h.b.blk (by decide)) (own_not_blk h.b.own h.a.blk (by decide)) (fun k h1 h2 => h.sep k h2 h1), h.la, h.lb, h.ne, fun k hk hk2 => by
    rcases hh with hh | hh
    · exact h.sep k (hh ▸ hk) hk2
    · have := hh k hk
      have := own_lt h.b.own k hk2
      omega, ht.to_below h.below h.below.size h.la h.a.vb⟩
theorem PW.put {w0 w : World} {ga gb : Nat} {va vb : Value} {xs bs : List Bool} (h : PW w0 w ga gb va vb xs bs) (v n : Nat) (h1 : 1 ≤ n) (h2 : n ≤ 32) (hv : v < 2 ^ n) (hl : xs.length ≤ 8000000) :
    Calls Try.prog 11 #[.pointer (some ⟨ga, 0, none⟩), .int .i64 v, .int .i64 n] w fun e w' => e = .returned (.int .i64 0) ∧ ∃ va', PW w0 w' ga gb va' vb (xs ++ numBits v n) bs := by
  refine (put_some _ ga va xs v n w h.a (put_fine xs v n h1 h2 hv (by omega))).mono ?_
  rintro e w' ⟨x, rfl, rfl, va', s, t, hh⟩
  exact ⟨rfl, va', h.next s t hh⟩
theorem PW.little {w0 w : World} {ga gb : Nat} {va vb : Value} {bs : List Bool} (h : PW w0 w ga gb va vb [] bs) (v : Nat) (hv : v < 2 ^ 32) :
    Calls Try.prog 17 #[.pointer (some ⟨ga, 0, none⟩), .int .i64 v, .int .i64 4] w fun e w' => e = .returned (.int .i64 0) ∧ ∃ va', PW w0 w' ga gb va' vb (littleBits v 4) bs := by
  refine (little_some _ ga va [] v 4 w h.a (little_fine v hv)).mono ?_
  rintro e w' ⟨x, rfl, rfl, va', s, t, hh⟩
  exact ⟨rfl, va', h.next (by simpa using s) t hh⟩
theorem PW.out {w0 w : World} {ga gb : Nat} {va vb : Value} {xs bs : List Bool} (h : PW w0 w ga gb va vb xs bs) (hl : xs.length ≤ 8000000) :
    Calls Try.prog 12 #[.pointer (some ⟨ga, 0, none⟩)] w fun e w' => ∃ A c, e = .returned (.slice A ((xs.length + 7) / 8) c) ∧ Holds w' A ((xs.length + 7) / 8) ((pack xs).map u8) ∧ (A = none → c = 0) ∧ PW w0 w' ga gb va vb xs bs ∧ Below w.heap.size w w' := by
  refine (out_some _ ga va xs w h.a (by omega)).mono ?_
  rintro e w' ⟨v, rfl, ho, hb⟩
  obtain ⟨A, c, rfl, -, -, h0, -⟩ := own_form ho
  exact ⟨A, c, rfl, holds_own ho, fun h => (h0 h).2, h.over hb, hb⟩
theorem PW.len {w0 w : World} {ga gb : Nat} {va vb : Value} {xs bs : List Bool} (h : PW w0 w ga gb va vb xs bs) : Calls Try.prog 13 #[.pointer (some ⟨ga, 0, none⟩)] w fun e w' => e = .returned (.int .i64 xs.length) ∧ w = w' := wlen_some ga va xs.length w h.a.blk
theorem PW.new {w0 w : World} (hb : Below w0.heap.size w0 w) : Calls Try.prog 10 #[] w fun e w' => e = .returned (.pointer (some ⟨w.heap.size, 0, none⟩)) ∧ WS w' w0.heap.size w.heap.size 63 [.bool true] (.slice none 0 0) [] ∧ Below w.heap.size w w' := by
  refine (newWriter_any w).mono ?_
  rintro e w' ⟨rfl, s, b⟩
  exact ⟨rfl, ⟨s.blk, World.ownsRow_nil _ _ 5 1, Nat.le_trans hb.size b.size⟩, b⟩
theorem PW.make {w0 w1 w2 : World} {g : Nat} (s1 : WS w1 w0.heap.size g 63 [.bool true] (.slice none 0 0) []) (hg : w0.heap.size ≤ g) (b1 : Below w0.heap.size w0 w1) (s2 : WS w2 w0.heap.size w1.heap.size 63 [.bool true] (.slice none 0 0) []) (b2 : Below w1.heap.size w1 w2) : PW w0 w2 g w1.heap.size (.slice none 0 0) (.slice none 0 0) [] [] :=
  ⟨s1.below b2 (Nat.le_refl _), s2, hg, Nat.le_trans hg (Nat.le_of_lt s1.blk.lt), Nat.ne_of_lt s1.blk.lt, (fun k hk => by cases hk), b1.trans (b2.mono b1.size)⟩
end Go.Proofs.Ythgbnpafhkhjpaa
