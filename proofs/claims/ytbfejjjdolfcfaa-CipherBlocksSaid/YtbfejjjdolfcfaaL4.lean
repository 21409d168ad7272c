/- The walk of CipherBlocks. -/
import Derived.Test.YtbfejjjdolfcfaaRb3
import Derived.Test.YtbfejjjdolfcfaaKn
namespace Go.Proofs.Ytbfejjjdolfcfaa
open Go.RowKit
set_option linter.unusedVariables false
set_option linter.unusedSimpArgs false

theorem ints_cell {w : World} {A : Option Addr} {n : Nat} {l : List Int} (h : Holds w A n (l.map iw)) {i : Nat} (hi : (i : Int) < n) : ∃ b o, A = some ⟨b, o, none⟩ ∧ w.cell? ⟨b, o + i, none⟩ = some (.int .i64 (l.getD i 0)) := by
  cases A with
  | none => have := (h.2.1 rfl).1; omega
  | some p =>
    have hl : l.length = n := by have := h.1; simpa using this
    have hu : (l.map iw)[i]? = some (iw (l.getD i 0)) := by
      have : i < l.length := by omega
      simp [List.getD, List.getElem?_eq_getElem this]
    have hc := h.2.2 p rfl i _ hu
    obtain ⟨b, o, spot⟩ := p
    have hc0 := h.2.2 _ rfl 0 (iw (l.getD 0 0)) (by
      have : 0 < l.length := by omega
      simp [List.getD, List.getElem?_eq_getElem this])
    have hs : spot = none := by simpa [Addr.add] using World.cell?_spot hc0
    subst hs
    rw [Addr.add_lit] at hc
    exact ⟨b, o, rfl, hc⟩

theorem ints_of_row {w : World} {x : Addr} {len cap : Nat} {zs : List Int} (hl : len ≤ cap) (hz : zs.length = cap) (hcell : ∀ i, i < zs.length → w.cell? (x.add i) = some (.int .i64 (zs.getD i 0))) : ∃ l : List Int, Holds w (some x) len (l.map iw) := by
  refine ⟨zs.take len, by simp; omega, fun h => (by cases h), fun b hb j u hu => ?_⟩
  cases hb
  have hj : j < len ∧ j < zs.length := by
    have := (List.getElem?_eq_some_iff.1 hu).1
    simp at this
    omega
  rw [hcell j hj.2]
  simp [List.getElem?_take, hj.1, List.getElem?_eq_getElem hj.2] at hu
  simp [List.getD, List.getElem?_eq_getElem hj.2]
  exact hu

set_option maxRecDepth 100000 in
set_option maxHeartbeats 2000000 in
theorem blocks_law (A0 : Option Addr) (n0 c0 : Nat) (l0 : List Int) (A1 : Option Addr) (n1 c1 : Nat) (l1 : List Int) (ctr : Int) (w : World) (h0 : Holds w A0 n0 (l0.map iw)) (h1 : Holds w A1 n1 (l1.map iw)) (wc : (Lit.int .i64 ctr).wf = true) :
    Calls Try.prog 4 #[.slice A0 n0 c0, .slice A1 n1 c1, .int .i64 ctr] w fun e w' => e = .returned (.bool true) ∧ Below w.heap.size w w' := by
  have H0 := Lib.hid h0
  have H1 := Lib.hid h1
  have O0 := Lib.hid (iw_one l0)
  have O1 := Lib.hid (iw_one l1)
  clear h0 h1 wc
  go_enter Try.func4, Try.ntmps4
  by_cases g0 : 12 < (n0 : Int)
  · have q0 : decide (12 < (n0 : Int)) = true := by simp; omega
    go_wp2_with (go_at_call 11; (with_reducible refine (known_any _).mono ?_); rintro e w5 ⟨rfl, b5⟩; have B5 := Lib.hid b5; clear b5)
    go_ret
    exact ⟨rfl, B5.out⟩
  have q0 : decide (12 < (n0 : Int)) = false := by simp; omega
  by_cases g1 : 12 < (n1 : Int)
  · have q1 : decide (12 < (n1 : Int)) = true := by simp; omega
    go_wp2_with (go_at_call 11; (with_reducible refine (known_any _).mono ?_); rintro e w5 ⟨rfl, b5⟩; have B5 := Lib.hid b5; clear b5)
    go_ret
    exact ⟨rfl, B5.out⟩
  have q1 : decide (12 < (n1 : Int)) = false := by simp; omega
  have m0 : (n0 : Int) ≤ 12 := by omega
  have m1 : (n1 : Int) ≤ 12 := by omega
  clear g0 g1
  obtain ⟨l, E, hg, hb⟩ := block_ends l0 l1 ctr
  have C12 := Lib.hid (fun X X' a b c d => blk_any X X' n0 a n1 b l0 l1 ctr l E hg hb c d)
  have C13 := Lib.hid (fun X X' a b c d => rblk_any X X' n0 a n1 b l0 l1 ctr l E hg hb c d)
  clear hg hb
  go_wp2_with (at_builtin; go_must (refine wpList_app_own (base := w.heap.size) (n := 0) (m := n0) (xs := []) (news := l0.map iw) rfl (.tmp 24) (.tmp 25) 29 rfl el29 rfl (own_none00 w 3) rfl (H0.out.alloc _) O0.out (by unfold maxLen; omega) (by omega) (by simp) ?_; intro v2 w2 hown hg hat; refine Hid.out ?_))
  refine Lib.hid ?_
  rw [Nat.zero_add, List.nil_append] at hown
  have HK2 := Lib.hid hown
  have HB2 := Lib.hid (below_own ((Below.refl w.heap.size w).alloc (Nat.le_refl _) _) (by simp) (own_none00 w 3) hg)
  clear hown hg hat q0 q1
  obtain ⟨AK, cK, rfl, -⟩ := own_form HK2.out
  go_wp2_with (at_builtin; go_must (refine wpList_app_own (base := w2.heap.size) (n := 0) (m := n1) (xs := []) (news := l1.map iw) rfl (.tmp 27) (.tmp 28) 29 rfl el29 rfl (own_none00 w2 3) rfl ((H1.out.keep HB2.out).alloc _) O1.out (by unfold maxLen; omega) (by omega) (by simp) ?_; intro v3 w3 hown hg hat; refine Hid.out ?_))
  refine Lib.hid ?_
  rw [Nat.zero_add, List.nil_append] at hown
  have b3 := below_own ((Below.refl w2.heap.size w2).alloc (Nat.le_refl _) _) (by simp) (own_none00 w2 3) hg
  have HN3 := Lib.hid (own_base hown HB2.out.size)
  have HK3 := Lib.hid (own_none HK2.out (grown_of_below b3))
  have HB3 := Lib.hid (HB2.out.trans (b3.mono HB2.out.size))
  clear hown hg hat b3 HK2 HB2
  obtain ⟨AN, cN, rfl, -⟩ := own_form HN3.out
  go_wp2_with fail
  (with_reducible refine (C12.out AK AN cK cN w3 (holds_own HK3.out) (holds_own HN3.out) (by omega) (by omega)).mono ?_); rintro e w4 ⟨vb, rfl, ho, b4⟩
  have HK4 := Lib.hid (own_none HK3.out (grown_of_below b4))
  have HN4 := Lib.hid (own_none HN3.out (grown_of_below b4))
  have HB4 := Lib.hid (HB3.out.trans (b4.mono HB3.out.size))
  obtain ⟨Ab, cb, rfl, -⟩ := own_form ho
  have HO4 := Lib.hid ho
  clear ho b4 HK3 HN3
  go_wp2_with fail
  (with_reducible refine (C13.out A0 A1 c0 c1 w4 (H0.out.keep HB4.out) (H1.out.keep HB4.out) (by omega) (by omega)).mono ?_); rintro e w5 ⟨vw, rfl, ho, b5⟩
  have HK5 := Lib.hid (own_none HK4.out (grown_of_below b5))
  have HN5 := Lib.hid (own_none HN4.out (grown_of_below b5))
  have HO5 := Lib.hid (holds_own (own_none HO4.out (grown_of_below b5)))
  have HB5 := Lib.hid (HB4.out.trans (b5.mono HB4.out.size))
  obtain ⟨Aw, cw, rfl, -⟩ := own_form ho
  have HW5 := Lib.hid (holds_own ho)
  clear ho b5 HK4 HN4 C12 C13 HO4 HB4 HB3 O0 O1
  go_wp2_with fail
  go_loopw [13] (fun ii wz => ∃ i : Nat, (i : Int) ≤ n0 ∧ ii = .int .i64 i ∧ Hid (Holds wz AK n0 (l0.map iw)) ∧ Hid (Holds wz AN n1 (l1.map iw)) ∧ Hid (Holds wz Ab l.length (l.map u8)) ∧ Hid (Holds wz Aw l.length (l.map u8)) ∧ Hid (Below w.heap.size w wz)) (fun ii _ => n0 - (intOf ii).toNat)
  case atStart => exact ⟨0, by omega, rfl, Lib.hid (holds_own HK5.out), Lib.hid (holds_own HN5.out), HO5, HW5, HB5⟩
  clear HK5 HN5 HO5 HW5 HB5
  case round =>
    obtain ⟨i, hi, rfl, HK, HN, HO, HW, HB⟩ := hrel
    have hi0 : (0 : Int) ≤ i := by omega
    by_cases hlt : (i : Int) < n0
    · obtain ⟨b1, o1, rfl, k1⟩ := ints_cell HK.out hlt
      obtain ⟨b2, o2, rfl, k2⟩ := ints_cell (H0.out.keep HB.out) hlt
      generalize l0.getD i 0 = x at k1 k2
      go_wp2_with fail
      go_region
      go_wp2_with fail
      go_roundw
      case rel => exact ⟨i + 1, by omega, by go_num, Lib.hid HK.out.drew, Lib.hid HN.out.drew, Lib.hid HO.out.drew, Lib.hid HW.out.drew, Lib.hid (below_drew HB.out)⟩
      case measure => simp [intOf]; omega
    · go_wp2_with fail
      go_loopw [14] (fun ii wz => ∃ i : Nat, (i : Int) ≤ n1 ∧ ii = .int .i64 i ∧ Hid (Holds wz AN n1 (l1.map iw)) ∧ Hid (Holds wz Ab l.length (l.map u8)) ∧ Hid (Holds wz Aw l.length (l.map u8)) ∧ Hid (Below w.heap.size w wz)) (fun ii _ => n1 - (intOf ii).toNat)
      case atStart => exact ⟨0, by omega, rfl, HN, HO, HW, HB⟩
      clear HK HN HO HW HB
      case round =>
        obtain ⟨j, hj, rfl, HN, HO, HW, HB⟩ := hrel
        have hj0 : (0 : Int) ≤ j := by omega
        by_cases hlt2 : (j : Int) < n1
        · obtain ⟨b1, o1, rfl, k1⟩ := ints_cell HN.out hlt2
          obtain ⟨b2, o2, rfl, k2⟩ := ints_cell (H1.out.keep HB.out) hlt2
          generalize l1.getD j 0 = x at k1 k2
          go_wp2_with fail
          go_region
          go_wp2_with fail
          go_roundw
          case rel => exact ⟨j + 1, by omega, by go_num, Lib.hid HN.out.drew, Lib.hid HO.out.drew, Lib.hid HW.out.drew, Lib.hid (below_drew HB.out)⟩
          case measure => simp [intOf]; omega
        · have s1 := conv_bs (P := Try.prog) wr 30 9 5 Try.underlying30 Try.underlying5 Try.underlying9 (c := cb) (l := l) rfl HO.out
          have s2 := conv_bs (P := Try.prog) wr 30 9 5 Try.underlying30 Try.underlying5 Try.underlying9 (c := cw) (l := l) rfl HW.out
          go_wp2_with (go_at_call 11; (with_reducible refine (known_any _).mono ?_); rintro e w7 ⟨rfl, b7⟩; have B7 := Lib.hid (HB.out.trans (b7.mono HB.out.size)); clear b7)
          go_ret
          exact ⟨by simp, B7.out⟩
end Go.Proofs.Ytbfejjjdolfcfaa
