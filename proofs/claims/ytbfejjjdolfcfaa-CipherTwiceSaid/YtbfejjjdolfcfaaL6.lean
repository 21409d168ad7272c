/- The walk of CipherTwice. -/
import Derived.Test.YtbfejjjdolfcfaaTw
import Derived.Test.YtbfejjjdolfcfaaXo4
import Derived.Test.YtbfejjjdolfcfaaKn
namespace Go.Proofs.Ytbfejjjdolfcfaa
open Go.RowKit
set_option linter.unusedVariables false
set_option linter.unusedSimpArgs false

set_option maxRecDepth 100000 in
set_option maxHeartbeats 2000000 in
theorem twice_out (key a cut : Int) (A : Option Addr) (n c : Nat) (w : World) (hn : n ≤ c) (hm : c ≤ maxLen) (h : key < 0 ∨ 4294967296 ≤ key ∨ a < 0 ∨ 137438953472 < a ∨ 300 < (n : Int) ∨ (n : Int) = 0) :
    Calls Try.prog 6 #[.int .i64 key, .int .i64 a, .slice A n c, .int .u16 cut] w fun e w' => e = .returned (.bool true) ∧ Below w.heap.size w w' := by
  clear hn hm
  go_enter Try.func6, Try.ntmps6
  by_cases h1 : key < 0
  · have q1 : decide (key < 0) = true := by simp <;> omega
    go_wp2_with (go_at_call 11; (with_reducible refine (known_any _).mono ?_); rintro e w5 ⟨rfl, b5⟩; have B5 := Lib.hid b5; clear b5)
    go_ret
    exact ⟨rfl, B5.out⟩
  have q1 : decide (key < 0) = false := by simp <;> omega
  by_cases h2 : 4294967296 ≤ key
  · have q2 : decide (4294967296 ≤ key) = true := by simp <;> omega
    go_wp2_with (go_at_call 11; (with_reducible refine (known_any _).mono ?_); rintro e w5 ⟨rfl, b5⟩; have B5 := Lib.hid b5; clear b5)
    go_ret
    exact ⟨rfl, B5.out⟩
  have q2 : decide (4294967296 ≤ key) = false := by simp <;> omega
  by_cases h3 : a < 0
  · have q3 : decide (a < 0) = true := by simp <;> omega
    go_wp2_with (go_at_call 11; (with_reducible refine (known_any _).mono ?_); rintro e w5 ⟨rfl, b5⟩; have B5 := Lib.hid b5; clear b5)
    go_ret
    exact ⟨rfl, B5.out⟩
  have q3 : decide (a < 0) = false := by simp <;> omega
  by_cases h4 : 137438953472 < a
  · have q4 : decide (137438953472 < a) = true := by simp <;> omega
    go_wp2_with (go_at_call 11; (with_reducible refine (known_any _).mono ?_); rintro e w5 ⟨rfl, b5⟩; have B5 := Lib.hid b5; clear b5)
    go_ret
    exact ⟨rfl, B5.out⟩
  have q4 : decide (137438953472 < a) = false := by simp <;> omega
  by_cases h5 : 300 < (n : Int)
  · have q5 : decide (300 < (n : Int)) = true := by simp <;> omega
    go_wp2_with (go_at_call 11; (with_reducible refine (known_any _).mono ?_); rintro e w5 ⟨rfl, b5⟩; have B5 := Lib.hid b5; clear b5)
    go_ret
    exact ⟨rfl, B5.out⟩
  have q5 : decide (300 < (n : Int)) = false := by simp <;> omega
  have h6 : (n : Int) = 0 := by omega
  have q6 : ((n : Int) == 0) = true := by simp <;> omega
  clear h h1 h2 h3 h4 h5 h6
  go_wp2_with (go_at_call 11; (with_reducible refine (known_any _).mono ?_); rintro e w5 ⟨rfl, b5⟩; have B5 := Lib.hid b5; clear b5)
  go_ret
  exact ⟨rfl, B5.out⟩

set_option maxRecDepth 100000 in
set_option maxHeartbeats 4000000 in
theorem twice_in (key : Int) (a cut : Nat) (A : Option Addr) (n c : Nat) (l : List UInt8) (w : World) (hl : l.length = n) (hnc : n ≤ c) (hb : Holds w A n (l.map u8)) (hA : ∃ b o, A = some ⟨b, o, none⟩) (h1 : 0 ≤ key) (h2 : key < 4294967296) (h4 : a ≤ 137438953472) (h5 : n ≤ 300) (h6 : 0 < n) (h7 : cut < 65536) :
    Calls Try.prog 6 #[.int .i64 key, .int .i64 (a : Int), .slice A n c, .int .u16 (cut : Int)] w fun e w' => e = .returned (.bool true) ∧ Below w.heap.size w w' := by
  obtain ⟨bb, oo, rfl⟩ := hA
  obtain ⟨m, hm⟩ : ∃ m, cut % n = m := ⟨_, rfl⟩
  have hmn : m < n := by rw [← hm]; exact Nat.mod_lt _ h6
  have q1 : decide (key < 0) = false := by simp <;> omega
  have q2 : decide (4294967296 ≤ key) = false := by simp <;> omega
  have q3 : decide ((a : Int) < 0) = false := by simp <;> omega
  have q4 : decide (137438953472 < (a : Int)) = false := by simp <;> omega
  have q5 : decide (300 < (n : Int)) = false := by simp <;> omega
  have q6 : ((n : Int) == 0) = false := by simp <;> omega
  have r1 : (cut : Int) % n = m := by rw [← Int.natCast_emod, hm]
  have r2 : (cut : Int) < 65536 := by omega
  have r3 : (0 : Int) ≤ cut := by omega
  have r4 : ((n : Int) = 0) = False := by simp; omega
  have r5 : (cut : Int).tmod n = m := by rw [Int.tmod_eq_emod_of_nonneg r3]; exact r1
  have m1 : (m : Int) < n := by omega
  have m2 : (n : Int) ≤ 300 := by omega
  have m3 : (n : Int) ≤ c := by omega
  have m4 : (0 : Int) ≤ m := by omega
  have m5 : (a : Int) ≤ 137438953472 := by omega
  have m6 : (0 : Int) ≤ a := by omega
  have m7 : (0 : Int) < n := by omega
  have HIN := Lib.hid hb
  have HL := Lib.hid hl
  have HM := Lib.hid hmn
  have CX := Lib.hid (fun X cx L W p q r => xor_good X n cx a key L W p (by omega) q r h1 h2 (by omega))
  have CP := Lib.hid (fun X cx L W p q r => xor_good X m cx a key L W p (by omega) q r h1 h2 (by omega))
  have CQ := Lib.hid (fun X cx L W p q r => xor_good X (n - m) cx (a + m) key L W p (by omega) q r h1 h2 (by omega))
  clear hb hl hnc h1 h2 h4 h5 h6 h7 hm hmn
  go_enter Try.func6, Try.ntmps6
  go_wp2_with fail
  clear q1 q2 q3 q4 q5 q6 r1 r2 r3 r4 r5
  (with_reducible refine (CX.out (some ⟨bb, oo, none⟩) c l w HL.out HIN.out (fun h => by cases h)).mono ?_); rintro e w1 ⟨v1, rfl, ho, b1⟩
  obtain ⟨A1, c1, rfl, -, -, hA1, -⟩ := own_form ho
  have HC1 := Lib.hid (show A1 = none → c1 = 0 from fun h => (hA1 h).2)
  have HX1 := Lib.hid ho
  have HB1 := Lib.hid b1
  clear ho b1 hA1
  go_wp2_with fail
  (with_reducible refine (CX.out A1 c1 (xorS key a l) w1 (by rw [xorS_length]; exact HL.out) (holds_own HX1.out) HC1.out).mono ?_); rintro e w2 ⟨v2, rfl, ho, b2⟩
  rw [xorS_twice] at ho
  obtain ⟨A2, c2, rfl, -⟩ := own_form ho
  have HX2 := Lib.hid (own_none HX1.out (grown_of_below b2))
  have HY2 := Lib.hid ho
  have HB2 := Lib.hid (HB1.out.trans (b2.mono HB1.out.size))
  clear ho b2 HX1 HB1 HC1
  go_wp2_with fail
  (with_reducible refine (CP.out (some ⟨bb, oo, none⟩) c (l.take m) w2 (by rw [List.length_take, HL.out]; omega) (holds_take (HIN.out.keep HB2.out) (by omega)) (fun h => by cases h)).mono ?_); rintro e w3 ⟨v3, rfl, ho, b3⟩
  obtain ⟨A3, c3, rfl, -⟩ := own_form ho
  have HX3 := Lib.hid (own_none HX2.out (grown_of_below b3))
  have HY3 := Lib.hid (own_none HY2.out (grown_of_below b3))
  have HP3 := Lib.hid ho
  have HB3 := Lib.hid (HB2.out.trans (b3.mono HB2.out.size))
  clear ho b3 HX2 HY2 HB2
  go_wp2_with fail
  rw [show ((a : Int) + m) = ((a + m : Nat) : Int) by omega]
  (with_reducible refine (CQ.out (some ⟨bb, oo + m, none⟩) (c - m) (l.drop m) w3 (by rw [List.length_drop, HL.out]) (holds_drop (HIN.out.keep HB3.out) (by omega)) (fun h => by cases h)).mono ?_); rintro e w4 ⟨v4, rfl, ho, b4⟩
  obtain ⟨A4, c4, rfl, -⟩ := own_form ho
  have HX4 := Lib.hid (own_none HX3.out (grown_of_below b4))
  have hx4 := holds_own HX4.out
  have hy4 := holds_own (own_none HY3.out (grown_of_below b4))
  have hp4 := holds_own (own_none HP3.out (grown_of_below b4))
  have hq4 := holds_own ho
  have HB4 := Lib.hid (HB3.out.trans (b4.mono HB3.out.size))
  have s1 := conv_bs (P := Try.prog) w4 30 9 5 Try.underlying30 Try.underlying5 Try.underlying9 (c := c2) (l := l) HL.out hy4
  have s2 := conv_bs (P := Try.prog) w4 30 9 5 Try.underlying30 Try.underlying5 Try.underlying9 (c := c) (l := l) HL.out (HIN.out.keep HB4.out)
  have s3 := conv_bs (P := Try.prog) w4 30 9 5 Try.underlying30 Try.underlying5 Try.underlying9 (c := c3) (l := xorS key a (l.take m)) (by rw [xorS_length, List.length_take, HL.out]; omega) hp4
  have s4 := conv_bs (P := Try.prog) w4 30 9 5 Try.underlying30 Try.underlying5 Try.underlying9 (c := c4) (l := xorS key (a + m) (l.drop m)) (by rw [xorS_length, List.length_drop, HL.out]) hq4
  have s5 := conv_bs (P := Try.prog) w4 30 9 5 Try.underlying30 Try.underlying5 Try.underlying9 (c := c1) (l := xorS key a l) (by rw [xorS_length]; exact HL.out) hx4
  have hsp : (({ data := (xorS key a (l.take m)).toArray } : ByteArray) ++ { data := (xorS key (a + m) (l.drop m)).toArray }) = { data := (xorS key a l).toArray } := by
    rw [← xorS_split key a m l (by rw [HL.out]; omega)]
    apply ByteArray.ext
    simp [ByteArray.data_append]
  have hln : (xorS key a (l.take m)).length + (xorS key (a + m) (l.drop m)).length = n := by
    rw [xorS_length, xorS_length, List.length_take, List.length_drop, HL.out]; omega
  clear ho b4 HX3 HY3 HP3 HB3 hx4 hy4 hp4 hq4
  go_wp2_with (at_builtin; go_must (refine wpList_app_own (base := w4.heap.size) (n := 0) (m := n) (xs := []) (news := l.map u8) rfl (.tmp 124) (.tmp 125) 30 rfl el30 rfl (own_none00 w4 5) rfl ((HIN.out.keep HB4.out).alloc _) (u8_one l) (by unfold maxLen; omega) (by omega) (by simp) ?_; intro v5 w5 hown hg hat; refine Hid.out ?_))
  refine Lib.hid ?_
  clear s1 s2 s3 s4 s5 hsp hln
  rw [Nat.zero_add, List.nil_append] at hown
  have hb5 := below_own ((Below.refl w4.heap.size w4).alloc (Nat.le_refl _) _) (by simp) (own_none00 w4 5) hg
  have HB5 := Lib.hid (HB4.out.trans (hb5.mono HB4.out.size))
  obtain ⟨g5, cap5, rfl, hg5, -, -, -, hcs⟩ := own_holds hown (by omega)
  have hml : m < l.length := by rw [HL.out]; omega
  have hc1 := hcs m (Ytbfejjjdolfcfaa.u8 l[m]) (by rw [List.getElem?_map, List.getElem?_eq_getElem hml]; rfl)
  rw [Addr.add_lit, Nat.zero_add] at hc1
  have hfr := own_frozen (k := m) hown
  have hso := own_store (k := m) hown (Ytbfejjjdolfcfaa.u8 (l[m] + 1))
  rw [← List.map_set] at hso
  obtain ⟨L2, hL2⟩ : ∃ L2, l.set m (l[m] + 1) = L2 := ⟨_, rfl⟩
  rw [hL2] at hso
  have hu := u8_succ l[m]
  unfold Ytbfejjjdolfcfaa.u8 at hc1
  rw [show Ytbfejjjdolfcfaa.u8 (l[m] + 1) = .int .u8 (((l[m].toNat : Int) + 1) % 256) by rw [hu]; rfl] at hso
  have HI := Lib.hid (show ∀ (k : Nat) (hk : k < l.length) (hx1 : k < (xorS key a l).length) (hx2 : k < (xorS key a L2).length), (xorS key a l)[k] = (xorS key a L2)[k] ↔ k ≠ m from by
    subst hL2
    intro k hk hx1 hx2
    exact xorS_set key a m l (l[m] + 1) k hk (fun e => by subst e; exact u8_succ_ne _))
  have HX6 := Lib.hid (fun v => own_setCell (a := ⟨g5, m, none⟩) (u := v) (own_none HX4.out (grown_of_below hb5)) (fun e => by have := (HX4.out.lt _ e).2; simp at this; omega))
  have HB6 := Lib.hid (fun v => HB5.out.setCell (p := ⟨g5, m, none⟩) (show w.heap.size ≤ g5 by have := HB4.out.size; omega) v)
  have HS6 := Lib.hid hso
  have HL2 := Lib.hid (show L2.length = n by rw [← hL2, List.length_set]; exact HL.out)
  have hz0 : (0 : Int) ≤ l[m].toNat := by omega
  have hz1 : (l[m].toNat : Int) < 256 := by have := l[m].toNat_lt; omega
  generalize (l[m].toNat : Int) = z at *
  clear hown hg hat hb5 hcs hso hu hL2 hml HX4 HB4 HB5 CP CQ
  go_wp2_with fail
  (with_reducible refine (CX.out _ _ L2 _ HL2.out (holds_own HS6.out) (fun h => by cases h)).mono ?_); rintro e w7 ⟨v7, rfl, ho, b7⟩
  obtain ⟨A7, c7, rfl, -⟩ := own_form ho
  have HX7 := Lib.hid (holds_own (own_none (HX6.out _) (grown_of_below b7)))
  have HZ7 := Lib.hid (holds_own ho)
  have HB7 := Lib.hid ((HB6.out _).trans (b7.mono (HB6.out _).size))
  clear ho b7 HX6 HB6 HS6 hc1 hfr CX
  go_wp2_with fail
  go_loopw [21] (fun kk wz => ∃ k : Nat, (k : Int) ≤ n ∧ kk = .int .i64 k ∧ Hid (Holds wz A1 n ((xorS key a l).map Ytbfejjjdolfcfaa.u8)) ∧ Hid (Holds wz A7 n ((xorS key a L2).map Ytbfejjjdolfcfaa.u8)) ∧ Hid (Below w.heap.size w wz)) (fun kk _ => n - (intOf kk).toNat)
  case atStart => exact ⟨0, by omega, rfl, HX7, HZ7, HB7⟩
  clear HX7 HZ7 HB7
  case round =>
    obtain ⟨k, hk, rfl, HX, HZ, HB⟩ := hrel
    have hk0 : (0 : Int) ≤ k := by omega
    by_cases hlt : (k : Int) < n
    · have hkl : k < l.length := by rw [HL.out]; omega
      have hx1 : k < (xorS key a l).length := by rw [xorS_length]; exact hkl
      have hx2 : k < (xorS key a L2).length := by rw [xorS_length, HL2.out]; omega
      have hi := HI.out k hkl hx1 hx2
      obtain ⟨b1, o1, rfl, k1⟩ := holds_cell HX.out hlt (show ((xorS key a l).map Ytbfejjjdolfcfaa.u8)[k]? = some (Ytbfejjjdolfcfaa.u8 (xorS key a l)[k]) by rw [List.getElem?_map, List.getElem?_eq_getElem hx1]; rfl)
      obtain ⟨b2, o2, rfl, k2⟩ := holds_cell HZ.out hlt (show ((xorS key a L2).map Ytbfejjjdolfcfaa.u8)[k]? = some (Ytbfejjjdolfcfaa.u8 (xorS key a L2)[k]) by rw [List.getElem?_map, List.getElem?_eq_getElem hx2]; rfl)
      unfold Ytbfejjjdolfcfaa.u8 at k1 k2
      by_cases e : k = m
      · subst e
        have hne : (((xorS key a l)[k].toNat : Int) == ((xorS key a L2)[k].toNat : Int)) = false := by
          rw [beq_eq_false_iff_ne]
          intro h
          have := hi.1 (UInt8.toNat_inj.1 (by omega))
          exact this rfl
        generalize ((xorS key a l)[k].toNat : Int) = x at *
        generalize ((xorS key a L2)[k].toNat : Int) = y at *
        clear hi hx1 hx2 hkl
        go_wp2_with fail
        go_region
        go_wp2_with fail
        go_roundw
        case rel => exact ⟨k + 1, by omega, by go_num, Lib.hid HX.out.drew, Lib.hid HZ.out.drew, Lib.hid (below_drew HB.out)⟩
        case measure => simp [intOf]; omega
      · have hxz := hi.2 e
        rw [← hxz] at k2
        have hkm : ((k : Int) == (m : Int)) = false := by simp; omega
        have hkm2 : ((k : Int) != (m : Int)) = true := by simp; omega
        generalize ((xorS key a l)[k].toNat : Int) = x at *
        clear hi hx1 hx2 hkl hxz e
        go_wp2_with fail
        go_region
        go_wp2_with fail
        go_roundw
        case rel => exact ⟨k + 1, by omega, by go_num, Lib.hid HX.out.drew, Lib.hid HZ.out.drew, Lib.hid (below_drew HB.out)⟩
        case measure => simp [intOf]; omega
    · go_wp2_with (go_at_call 11; (with_reducible refine (known_any _).mono ?_); rintro e w9 ⟨rfl, b9⟩; have B9 := Lib.hid (HB.out.trans (b9.mono HB.out.size)); clear b9)
      go_ret
      exact ⟨rfl, B9.out⟩

theorem twice_law (key a : Int) (A : Option Addr) (n c : Nat) (l : List UInt8) (cut : Int) (w : World) (w0 : (Lit.int .i64 key).wf = true) (w1 : (Lit.int .i64 a).wf = true) (hl : l.length = n) (hc : n ≤ c) (hm : c ≤ maxLen) (hb : BS w w.heap.size A l) (w3 : (Lit.int .u16 cut).wf = true) :
    Calls Try.prog 6 #[.int .i64 key, .int .i64 a, .slice A n c, .int .u16 cut] w fun e w' => e = .returned (.bool true) ∧ Below w.heap.size w w' := by
  have hcut : 0 ≤ cut ∧ cut < 65536 := by
    simp [Lit.wf, IntKind.min, IntKind.max, IntKind.bits, IntKind.signed] at w3
    omega
  by_cases h : key < 0 ∨ 4294967296 ≤ key ∨ a < 0 ∨ 137438953472 < a ∨ 300 < (n : Int) ∨ (n : Int) = 0
  · exact twice_out key a cut A n c w hc hm h
  · obtain ⟨an, rfl⟩ := Int.eq_ofNat_of_zero_le (show 0 ≤ a by omega)
    obtain ⟨cn, rfl⟩ := Int.eq_ofNat_of_zero_le hcut.1
    have h0 : 0 < l.length := by omega
    obtain ⟨b, o, e, _⟩ := hb h0
    exact twice_in key an cn A n c l w hl hc (hb.holds hl) ⟨b, o, e⟩ (by omega) (by omega) (by omega) (by omega) (by omega) (by omega)
end Go.Proofs.Ytbfejjjdolfcfaa
