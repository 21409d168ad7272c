/- The walk of CipherStreams. -/
import Derived.Test.YtbfejjjdolfcfaaSt2
import Derived.Test.YtbfejjjdolfcfaaXo4
import Derived.Test.YtbfejjjdolfcfaaKn
namespace Go.Proofs.Ytbfejjjdolfcfaa
open Go.RowKit
set_option linter.unusedVariables false
set_option linter.unusedSimpArgs false

/-- A call of the law's list, opened. -/
structure ActV where
  k : Int
  A : Option Addr
  n : Nat
  c : Nat
  l : List UInt8
  at' : Int

def ActC (w : World) (b o : Nat) (x : ActV) : Prop := w.cell? ⟨b, o, none⟩ = some (.int .u8 x.k) ∧ w.cell? ⟨b, o + 1, none⟩ = some (.slice x.A x.n x.c) ∧ w.cell? ⟨b, o + 2, none⟩ = some (.int .i64 x.at')
theorem ActC.keepc {w w' : World} {b o : Nat} {x : ActV} (h : ActC w b o x) (hb : Below w.heap.size w w') : ActC w' b o x := by
  obtain ⟨h1, h2, h3⟩ := h
  refine ⟨?_, ?_, ?_⟩
  · rw [hb.cell (World.block_lt_of_cell? _ _ h1)]; exact h1
  · rw [hb.cell (World.block_lt_of_cell? _ _ h2)]; exact h2
  · rw [hb.cell (World.block_lt_of_cell? _ _ h3)]; exact h3
def ActS (w : World) (A : Option Addr) (len : Nat) (f : Nat → ActV) : Prop := ∀ i, i < len → ∃ b o, A = some ⟨b, o, none⟩ ∧ ActC w b (o + i * 3) (f i) ∧ 0 ≤ (f i).k ∧ (f i).k < 256 ∧ (f i).l.length = (f i).n ∧ Holds w (f i).A (f i).n ((f i).l.map u8) ∧ ((f i).A = none → (f i).c = 0)

theorem next_grown (g : Nat) (key a : Int) (A : Option Addr) (n c : Nat) (l : List UInt8) (w : World) (hg : Blk w g 46 #[.int .i64 key, .int .i64 a, .bool true]) (hl : l.length = n) (hn : n ≤ 3000) (hb : Holds w A n (l.map u8)) (hc : A = none → c = 0) :
    Calls Try.prog 16 #[.pointer (some ⟨g, 0, none⟩), .slice A n c] w fun e w' => ∃ v, e = .returned v ∧ w.grownBy w' (some g) := by
  by_cases h : errP key a n = 0
  · exact (next_ok g key a A n c l w hg hl hn hb hc h).mono fun e w' ⟨v, he, _, _, hgr⟩ => ⟨_, he, hgr⟩
  · exact (next_bad g key a A n c l w hg hl hn hb hc h).mono fun e w' ⟨v, he, _, _, hgr⟩ => ⟨_, he, hgr⟩

set_option maxRecDepth 100000 in
set_option maxHeartbeats 4000000 in
theorem streams_law (key : Int) (A : Option Addr) (n c : Nat) (f : Nat → ActV) (w : World) (_ : (Lit.int .i64 key).wf = true) (hs : ActS w A n f) :
    Calls Try.prog 8 #[.int .i64 key, .slice A n c] w fun e w' => e = .returned (.bool true) ∧ Below w.heap.size w w' := by
  have HS := Lib.hid hs
  have HR := Lib.hid (Below.refl w.heap.size w)
  clear hs
  go_enter Try.func8, Try.ntmps8
  by_cases g0 : 15 < (n : Int)
  · have q0 : decide (15 < (n : Int)) = true := by simp <;> omega
    go_wp2_with (go_at_call 11; (with_reducible refine (known_any _).mono ?_); rintro e w9 ⟨rfl, b9⟩; have B9 := Lib.hid (HR.out.trans (b9.mono HR.out.size)); clear b9)
    go_ret
    exact ⟨by simp, B9.out⟩

  have q0 : decide (15 < (n : Int)) = false := by simp <;> omega
  have m0 : (n : Int) ≤ 15 := by omega
  clear g0
  go_wp2_with fail
  clear q0
  go_loop [5] (fun ii => ∃ i : Nat, (i : Int) ≤ n ∧ ii = .int .i64 i ∧ Hid (∀ j, j < i → (f j).n ≤ 200)) (fun ii => n - (intOf ii).toNat)
  case atStart => exact ⟨0, by omega, rfl, Lib.hid (fun j h => absurd h (Nat.not_lt_zero j))⟩
  case round =>
    obtain ⟨i, hi, rfl, HJ⟩ := hrel
    have hi0 : (0 : Int) ≤ i := by omega
    by_cases hlt : (i : Int) < n
    · obtain ⟨b, o, rfl, ⟨k1, k2, k3⟩, -⟩ := HS.out i (by omega)
      by_cases h2 : 200 < ((f i).n : Int)
      · have q2 : decide (200 < ((f i).n : Int)) = true := by simp <;> omega
        go_wp2_with (go_at_call 11; (with_reducible refine (known_any _).mono ?_); rintro e w9 ⟨rfl, b9⟩; have B9 := Lib.hid (HR.out.trans (b9.mono HR.out.size)); clear b9)
        go_ret
        exact ⟨by simp, B9.out⟩

      · have q2 : decide (200 < ((f i).n : Int)) = false := by simp <;> omega
        have HJ2 := Lib.hid (show ∀ j, j < i + 1 → (f j).n ≤ 200 from fun j hj => by
          rcases Nat.lt_succ_iff_lt_or_eq.1 hj with h | rfl
          · exact HJ.out j h
          · omega)
        clear h2
        go_wp2_with fail
        go_round
        case rel => exact ⟨i + 1, by omega, by go_num, HJ2⟩
        case measure => simp [intOf]; omega
    · have HJN := Lib.hid (show ∀ j, j < n → (f j).n ≤ 200 from fun j h => HJ.out j (by omega))
      clear HJ hi
      by_cases he : errP key 0 0 = 0
      · go_wp2_with fail
        (with_reducible refine (new_ok key w he).mono ?_); rintro e w1 ⟨g, rfl, hg, hg1, b1⟩
        have HG1 := Lib.hid hg1
        have HB1 := Lib.hid b1
        clear hg1 b1
        go_wp2_with fail
        (with_reducible refine (rxor_any none 0 0 key 0 [] w1 rfl (by omega) (holds_nil _)).mono ?_); rintro e w2 ⟨v2, rfl, ho, b2⟩
        rw [show errP key 0 ((0 : Nat) : Int) = errP key 0 0 from rfl, he]
        have HG2 := Lib.hid (HG1.out.below b2 HG1.out.lt)
        have HB2 := Lib.hid (HB1.out.trans (b2.mono HB1.out.size))
        clear ho b2 HG1 HB1 hlt hi0
        go_wp2_with fail
        go_loopw [6, 10, 11] (fun ss aa ii wz => ∃ (g : Nat) (a : Int) (j : Nat), (j : Int) ≤ n ∧ ss = .pointer (some ⟨g, 0, none⟩) ∧ aa = .int .i64 a ∧ ii = .int .i64 j ∧ w.heap.size ≤ g ∧ Hid (Blk wz g 46 #[.int .i64 key, .int .i64 a, .bool true]) ∧ Hid (Below w.heap.size w wz)) (fun _ _ ii _ => n - (intOf ii).toNat)
        case atStart => exact ⟨g, 0, 0, by omega, rfl, rfl, rfl, hg, HG2, HB2⟩
        clear HG2 HB2
        case round =>
          obtain ⟨g, a, i, hi, rfl, rfl, rfl, hg, HG, HB⟩ := hrel
          have hi0 : (0 : Int) ≤ i := by omega
          by_cases hlt : (i : Int) < n
          · obtain ⟨b, o, rfl, hcl, hk0, hk1, hl1, hx, hc1⟩ := HS.out i (by omega)
            have hn1 := HJN.out i (by omega)
            generalize f i = X at *
            obtain ⟨K, A1, n1, c1, l1, at1⟩ := X
            have HX := Lib.hid hx
            clear hx
            dsimp only at hcl hk0 hk1 hl1 HX hc1 hn1
            have hn2 : (n1 : Int) ≤ 200 := by omega
            obtain ⟨k1, k2, k3⟩ := hcl.keepc HB.out
            rcases (show K % 3 = 0 ∨ K % 3 = 1 ∨ K % 3 = 2 by omega) with h3 | h3 | h3
            · by_cases he : errP key a n1 = 0
              · skip
                go_wp2_with fail
                (with_reducible refine (next_ok g key a A1 n1 c1 l1 wr HG.out hl1 (by omega) (HX.out.keep HB.out) hc1 he).mono ?_); rintro e w2 ⟨v2, rfl, ho, hg2, hgr⟩
                obtain ⟨A2, c2, rfl, -⟩ := own_form ho
                have HO2 := Lib.hid ho
                have HG2 := Lib.hid hg2
                have HB2 := Lib.hid (below_grown HB.out HB.out.size hg hgr)
                clear ho hg2 hgr HG
                obtain ⟨k4, k5, k6⟩ := hcl.keepc HB2.out
                go_wp2_with fail
                (with_reducible refine (rxor_any A1 n1 c1 key a l1 w2 hl1 (by omega) (HX.out.keep HB2.out)).mono ?_); rintro e w3 ⟨v3, rfl, ho, b3⟩
                obtain ⟨A3, c3, rfl, -⟩ := own_form ho
                have s1 := conv_bs (P := Try.prog) w3 30 9 5 Try.underlying30 Try.underlying5 Try.underlying9 (c := c2) (l := xorR key a l1) rfl (holds_own (own_none HO2.out (grown_of_below b3)))
                have s2 := conv_bs (P := Try.prog) w3 30 9 5 Try.underlying30 Try.underlying5 Try.underlying9 (c := c3) (l := xorR key a l1) rfl (holds_own ho)
                have HG3 := Lib.hid (HG2.out.below b3 HG2.out.lt)
                have HB3 := Lib.hid (HB2.out.trans (b3.mono HB2.out.size))
                obtain ⟨k1, k2, k3⟩ := hcl.keepc HB3.out
                clear ho b3 HO2 HG2
                rw [he]
                obtain ⟨hb0, hb1⟩ := errP_bound he
                go_wp2_with fail
                (with_reducible refine (place_some _ _ _ _ HG3.out).mono ?_); rintro e w9 ⟨rfl, rfl⟩
                go_wp2_with fail
                go_roundw
                case rel => exact ⟨g, a + n1, i + 1, by omega, rfl, rfl, by go_num, hg, HG3, HB3⟩
                case measure => simp [intOf]; omega

              · skip
                go_wp2_with fail
                (with_reducible refine (next_bad g key a A1 n1 c1 l1 wr HG.out hl1 (by omega) (HX.out.keep HB.out) hc1 he).mono ?_); rintro e w2 ⟨v2, rfl, ho, hg2, hgr⟩
                obtain ⟨A2, c2, rfl, -⟩ := own_form ho
                have HO2 := Lib.hid ho
                have HG2 := Lib.hid hg2
                have HB2 := Lib.hid (below_grown HB.out HB.out.size hg hgr)
                clear ho hg2 hgr HG
                obtain ⟨k4, k5, k6⟩ := hcl.keepc HB2.out
                go_wp2_with fail
                (with_reducible refine (rxor_any A1 n1 c1 key a l1 w2 hl1 (by omega) (HX.out.keep HB2.out)).mono ?_); rintro e w3 ⟨v3, rfl, ho, b3⟩
                obtain ⟨A3, c3, rfl, -⟩ := own_form ho
                have s1 := conv_bs (P := Try.prog) w3 30 9 5 Try.underlying30 Try.underlying5 Try.underlying9 (c := c2) (l := xorR key a l1) rfl (holds_own (own_none HO2.out (grown_of_below b3)))
                have s2 := conv_bs (P := Try.prog) w3 30 9 5 Try.underlying30 Try.underlying5 Try.underlying9 (c := c3) (l := xorR key a l1) rfl (holds_own ho)
                have HG3 := Lib.hid (HG2.out.below b3 HG2.out.lt)
                have HB3 := Lib.hid (HB2.out.trans (b3.mono HB2.out.size))
                obtain ⟨k1, k2, k3⟩ := hcl.keepc HB3.out
                clear ho b3 HO2 HG2
                have hd : (errP key a n1 == 0) = false := by rw [beq_eq_false_iff_ne]; exact he
                generalize errP key a n1 = E at *
                go_wp2_with fail
                (with_reducible refine (place_some _ _ _ _ HG3.out).mono ?_); rintro e w9 ⟨rfl, rfl⟩
                go_wp2_with fail
                go_roundw
                case rel => exact ⟨g, a, i + 1, by omega, rfl, rfl, by go_num, hg, HG3, HB3⟩
                case measure => simp [intOf]; omega

            · by_cases he : errP key at1 0 = 0
              · skip
                go_wp2_with fail
                (with_reducible refine (seek_ok g key a at1 wr HG.out he).mono ?_); rintro e w2 ⟨rfl, hg2, hgr⟩
                have HG2 := Lib.hid hg2
                have HB2 := Lib.hid (below_grown HB.out HB.out.size hg hgr)
                clear hg2 hgr HG
                obtain ⟨k4, k5, k6⟩ := hcl.keepc HB2.out
                go_wp2_with fail
                (with_reducible refine (rxor_any none 0 0 key at1 [] w2 rfl (by omega) (holds_nil _)).mono ?_); rintro e w3 ⟨v3, rfl, ho, b3⟩
                have HG3 := Lib.hid (HG2.out.below b3 HG2.out.lt)
                have HB3 := Lib.hid (HB2.out.trans (b3.mono HB2.out.size))
                obtain ⟨k1, k2, k3⟩ := hcl.keepc HB3.out
                rw [show errP key at1 ((0 : Nat) : Int) = errP key at1 0 from rfl]
                clear ho b3 HG2
                rw [he]
                go_wp2_with fail
                (with_reducible refine (place_some _ _ _ _ HG3.out).mono ?_); rintro e w9 ⟨rfl, rfl⟩
                go_wp2_with fail
                go_roundw
                case rel => exact ⟨g, at1, i + 1, by omega, rfl, rfl, by go_num, hg, HG3, HB3⟩
                case measure => simp [intOf]; omega

              · skip
                go_wp2_with fail
                (with_reducible refine (seek_bad g key a at1 wr HG.out he).mono ?_); rintro e w2 ⟨rfl, b2⟩
                have HG2 := Lib.hid (HG.out.below b2 HG.out.lt)
                have HB2 := Lib.hid (HB.out.trans (b2.mono HB.out.size))
                clear b2 HG
                obtain ⟨k4, k5, k6⟩ := hcl.keepc HB2.out
                go_wp2_with fail
                (with_reducible refine (rxor_any none 0 0 key at1 [] w2 rfl (by omega) (holds_nil _)).mono ?_); rintro e w3 ⟨v3, rfl, ho, b3⟩
                have HG3 := Lib.hid (HG2.out.below b3 HG2.out.lt)
                have HB3 := Lib.hid (HB2.out.trans (b3.mono HB2.out.size))
                obtain ⟨k1, k2, k3⟩ := hcl.keepc HB3.out
                rw [show errP key at1 ((0 : Nat) : Int) = errP key at1 0 from rfl]
                clear ho b3 HG2
                have hd : (errP key at1 0 == 0) = false := by rw [beq_eq_false_iff_ne]; exact he
                generalize errP key at1 0 = E at *
                go_wp2_with fail
                (with_reducible refine (place_some _ _ _ _ HG3.out).mono ?_); rintro e w9 ⟨rfl, rfl⟩
                go_wp2_with fail
                go_roundw
                case rel => exact ⟨g, a, i + 1, by omega, rfl, rfl, by go_num, hg, HG3, HB3⟩
                case measure => simp [intOf]; omega

            · skip
              go_wp2_with fail
              (with_reducible refine (copy_some g key a wr HG.out).mono ?_); rintro e w2 ⟨rfl, hg2, b2⟩
              have HN2 := Lib.hid hg2
              have HG2 := Lib.hid (HG.out.below b2 HG.out.lt)
              have hne : wr.heap.size ≠ g := by have := HG.out.lt; omega
              have hgn : w.heap.size ≤ wr.heap.size := HB.out.size
              have HB2 := Lib.hid (HB.out.trans (b2.mono HB.out.size))
              generalize wr.heap.size = gn at *
              clear hg2 b2 HG
              go_wp2_with fail
              have HG3 := Lib.hid (HG2.out.alloc (.cells #[.int .u8 1, .int .u8 2, .int .u8 3] 5))
              have HN3 := Lib.hid (HN2.out.alloc (.cells #[.int .u8 1, .int .u8 2, .int .u8 3] 5))
              have HB3 := Lib.hid (HB2.out.alloc HB2.out.size (.cells #[.int .u8 1, .int .u8 2, .int .u8 3] 5))
              have h123 := holds_blk (n := 3) (vs := [1, 2, 3].map Ytbfejjjdolfcfaa.u8) (Blk.new w2 5 #[.int .u8 1, .int .u8 2, .int .u8 3]) rfl rfl
              have H123 := Lib.hid h123
              clear h123
              (with_reducible refine (next_grown g key a (some ⟨w2.heap.size, 0, none⟩) 3 3 [1, 2, 3] _ HG3.out rfl (by omega) H123.out (fun h => by cases h)).mono ?_); rintro e w3 ⟨v3, rfl, hgr⟩
              have HN4 := Lib.hid (HN3.out.grown hgr (by simpa using hne))
              have HB4 := Lib.hid (below_grown HB3.out HB3.out.size hg hgr)
              clear hgr HG3 HN3 HB3 H123 HG2 HN2
              go_wp2_with fail
              (with_reducible refine (place_some _ _ _ _ HN4.out).mono ?_); rintro e w9 ⟨rfl, rfl⟩
              go_wp2_with fail
              go_roundw
              case rel => exact ⟨gn, a, i + 1, by omega, rfl, rfl, by go_num, hgn, HN4, HB4⟩
              case measure => simp [intOf]; omega

          · skip
            go_wp2_with (go_at_call 11; (with_reducible refine (known_any _).mono ?_); rintro e w9 ⟨rfl, b9⟩; have B9 := Lib.hid (HB.out.trans (b9.mono HB.out.size)); clear b9)
            go_ret
            exact ⟨by simp, B9.out⟩

      · have hd : (errP key 0 0 != 0) = true := by rw [bne_iff_ne]; exact he
        go_wp2_with fail
        (with_reducible refine (new_bad key w he).mono ?_); rintro e w1 ⟨rfl, b1⟩
        have HB1 := Lib.hid b1
        clear b1
        go_wp2_with fail
        (with_reducible refine (rxor_any none 0 0 key 0 [] w1 rfl (by omega) (holds_nil _)).mono ?_); rintro e w2 ⟨v2, rfl, ho, b2⟩
        rw [show errP key 0 ((0 : Nat) : Int) = errP key 0 0 from rfl]
        generalize errP key 0 0 = E at *
        have HB2 := Lib.hid (HB1.out.trans (b2.mono HB1.out.size))
        clear ho b2 HB1
        go_wp2_with (go_at_call 11; (with_reducible refine (known_any _).mono ?_); rintro e w9 ⟨rfl, b9⟩; have B9 := Lib.hid (HB2.out.trans (b9.mono HB2.out.size)); clear b9)
        go_ret
        exact ⟨by simp, B9.out⟩

end Go.Proofs.Ytbfejjjdolfcfaa
