/- FrameNone: the law's walk. -/
import Derived.Test.YtibkhjpjneoabaaFt
namespace Go.Proofs.Ytibkhjpjneoabaa
open Go.RowKit
set_option linter.unusedVariables false
set_option linter.unusedSimpArgs false

set_option maxRecDepth 100000 in
set_option maxHeartbeats 4000000 in
theorem none_law (A : Option Addr) (n cp : Nat) (l : List UInt8) (zero : Bool) (w : World) (hl : l.length = n) (hc : n ≤ cp) (hm : cp ≤ maxLen) (hb : BS w w.heap.size A l) :
    Calls Try.prog 8 #[.slice A n cp, .bool zero] w fun e w' => e = .returned (.bool true) ∧ Below w.heap.size w w' := by
  clear hl hc hm hb l
  by_cases h7 : (n : Int) ≤ 700
  case neg =>
    have q : decide (700 < (n : Int)) = true := by simp; omega
    clear h7
    go_enter Try.func8, Try.ntmps8
    go_wp2_with (go_at_call 10; (with_reducible refine (known_any _).mono ?_); rintro e w2 ⟨rfl, b2⟩; have HB2 := Lib.hid b2; clear b2)
    go_ret
    exact ⟨rfl, HB2.out⟩
  have q : decide (700 < (n : Int)) = false := by simp; omega
  clear h7
  cases zero with
  | false =>
    have HN := Lib.hid (NoRd.nil w)
    have HB := Lib.hid (Below.refl w.heap.size w)
    go_enter Try.func8, Try.ntmps8
    go_wp2_with (first
      | (go_at_call 17; (with_reducible refine (feed_none none A n cp _ HN.out).mono ?_); rintro e w2 ⟨rfl, b2⟩; have HN2 := Lib.hid (HN.out.below b2); have HB2 := Lib.hid (HB.out.trans (b2.mono HB.out.size)); clear b2)
      | (go_at_call 23; (with_reducible refine (close_none none _ HN2.out).mono ?_); rintro e w3 ⟨rfl, rfl⟩; refine Hid.out ?_))
    refine Lib.hid ?_
    go_wp2_with (first
      | (go_at_call 15; (with_reducible refine (num_any 1 _).mono ?_); rintro e _ ⟨rfl, rfl⟩)
      | (go_at_call 19; (with_reducible refine (broken_none none _ HN2.out).mono ?_); rintro e _ ⟨rfl, rfl⟩)
      | (go_at_call 22; (with_reducible refine (offset_none none _ HN2.out).mono ?_); rintro e _ ⟨rfl, rfl⟩)
      | (go_at_call 24; (with_reducible refine (copy_none none _ HN2.out).mono ?_); rintro e _ ⟨rfl, rfl⟩)
      | (go_at_call 10; (with_reducible refine (known_any _).mono ?_); rintro e we ⟨rfl, b3⟩; have HBwe := Lib.hid (HB2.out.trans (b3.mono HB2.out.size)); clear b3))
    go_ret
    exact ⟨rfl, HBwe.out⟩
  | true =>
    obtain ⟨W0, hW0⟩ : ∃ W0, w.alloc (.cells #[.int .i64 0, .int .i64 0, .int .i64 0, .int .i64 0, .int .i64 0, .int .i64 0, .slice none 0 0, .bool false, .bool false, .bool false] 58) = W0 := ⟨_, rfl⟩
    have hb0 : Below w.heap.size w W0 := hW0 ▸ (Below.refl _ w).alloc (Nat.le_refl _) _
    have kf : Blk W0 w.heap.size 58 #[.int .i64 0, .int .i64 0, .int .i64 0, .int .i64 0, .int .i64 0, .int .i64 0, .slice none 0 0, .bool false, .bool false, .bool false] := hW0 ▸ Blk.new w 58 _
    have hn : NoRd (some ⟨w.heap.size, 0, none⟩) W0 := fun W hb => none_zero w.heap.size W ((kf.below hb kf.lt).cell 1)
    have HN := Lib.hid hn
    have HB := Lib.hid hb0
    have HW0 := Lib.hid hW0
    clear hW0 hb0 kf hn
    go_enter Try.func8, Try.ntmps8
    go_upto_region 6 with fail
    rw [HW0.out]
    clear HW0
    go_wp2_with (first
      | (go_at_call 17; (with_reducible refine (feed_none (some ⟨w.heap.size, 0, none⟩) A n cp _ HN.out).mono ?_); rintro e w2 ⟨rfl, b2⟩; have HN2 := Lib.hid (HN.out.below b2); have HB2 := Lib.hid (HB.out.trans (b2.mono HB.out.size)); clear b2)
      | (go_at_call 23; (with_reducible refine (close_none (some ⟨w.heap.size, 0, none⟩) _ HN2.out).mono ?_); rintro e w3 ⟨rfl, rfl⟩; refine Hid.out ?_))
    refine Lib.hid ?_
    go_wp2_with (first
      | (go_at_call 15; (with_reducible refine (num_any 1 _).mono ?_); rintro e _ ⟨rfl, rfl⟩)
      | (go_at_call 19; (with_reducible refine (broken_none (some ⟨w.heap.size, 0, none⟩) _ HN2.out).mono ?_); rintro e _ ⟨rfl, rfl⟩)
      | (go_at_call 22; (with_reducible refine (offset_none (some ⟨w.heap.size, 0, none⟩) _ HN2.out).mono ?_); rintro e _ ⟨rfl, rfl⟩)
      | (go_at_call 24; (with_reducible refine (copy_none (some ⟨w.heap.size, 0, none⟩) _ HN2.out).mono ?_); rintro e _ ⟨rfl, rfl⟩)
      | (go_at_call 10; (with_reducible refine (known_any _).mono ?_); rintro e we ⟨rfl, b3⟩; have HBwe := Lib.hid (HB2.out.trans (b3.mono HB2.out.size)); clear b3))
    go_ret
    exact ⟨rfl, HBwe.out⟩
end Go.Proofs.Ytibkhjpjneoabaa
