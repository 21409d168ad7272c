/- Block's error; must; slices.Equal; pieces of bytes. -/
import Derived.Test.YtgbkoegmoelheaaCh
namespace Go.Proofs.Ytgbkoegmoelheaa
open Go.RowKit
set_option linter.unusedVariables false
set_option linter.unusedSimpArgs false

theorem badAt_false {ps : List Pd} (h : badAt ps = false) : ∀ p ∈ ps, validP p.pk = true := fun p hp => by
  unfold badAt at h
  have := (List.any_eq_false.1 h) p hp
  simpa using this
theorem PL.valid {w : World} {A : Option Addr} {n c : Nat} {ps : List Pd} (h : PL w A n c ps) (hb : badAt ps = false) : ∀ p ∈ ps, 0 ≤ p.t ∧ p.t ≤ 1099511627776 ∧ 0 ≤ p.f ∧ p.f ≤ 65535 ∧ p.n ≤ 4096 := fun p hp => by
  have h1 := validP_iff.1 (badAt_false hb p hp)
  have h2 := (h.r p hp).r.len
  have e : p.pk.d.length = p.n := h2
  rw [e] at h1
  exact h1

set_option maxRecDepth 100000 in
set_option maxHeartbeats 4000000 in
theorem blockB_no (A : Option Addr) (n c : Nat) (ps : List Pd) (w : World) (h : PL w A n c ps) (hn : n ≤ 200) (hm : ∀ p ∈ ps, p.n ≤ 30000) (hno : badAt ps = true ∨ fitsP (pks ps) = false) :
    Calls Try.prog 11 #[.slice A n c] w fun e w' => e = .returned (.tuple #[.slice none 0 0, .int .i64 2]) ∧ Below w.heap.size w w' := by
  have C30 := Lib.hid (contains_any A n c ps w h (by omega) (fun p hp => by have := hm p hp; omega))
  cases hb : badAt ps with
  | true =>
    rw [hb] at C30
    clear h hn hm hno hb
    go_enter Try.func11, Try.ntmps11
    go_wp2_with (go_at_call 30; (with_reducible refine C30.out.mono ?_); rintro e w1 ⟨rfl, hb⟩; have HB1 := Lib.hid hb; clear hb)
    go_ret2
    exact ⟨rfl, HB1.out⟩
  | false =>
    have hf : fitsP (pks ps) = false := by
      rcases hno with h | h
      · rw [hb] at h; cases h
      · exact h
    have hv := h.valid hb
    have C32 := Lib.hid (fun (W : World) (hb : Below w.heap.size w W) => block_any A n c ps W (h.below hb) hn (fun p hp => by have := hv p hp; omega) hm)
    rw [hb] at C30
    rw [hf] at C32
    clear h hn hm hno hb hv hf
    go_enter Try.func11, Try.ntmps11
    go_wp2_with (first | (go_at_call 30; (with_reducible refine C30.out.mono ?_); rintro e w1 ⟨rfl, hb⟩; have HB1 := Lib.hid hb; clear hb) | (go_at_call 32; (with_reducible refine (C32.out _ HB1.out).mono ?_); rintro e w2 ⟨rfl, hb2⟩; have HB2 := Lib.hid (HB1.out.trans (hb2.mono HB1.out.size)); clear hb2))
    go_ret2
    exact ⟨rfl, HB2.out⟩

set_option maxRecDepth 100000 in
theorem must_yes (e : Int) (w : World) : Calls Try.prog 40 #[.bool true, .int .i64 e] w fun en w' => en = .returned (.tuple #[]) ∧ w' = w := by
  go_enter Try.func40, Try.ntmps40
  go_wp2_with fail
  first | go_end0 | skip
  exact ⟨rfl, rfl⟩
/-- A panic of this error. -/
def errV (e : Int) : PanicEntry := { v := .iface 26 (.int .i64 e), recovered := false }
set_option maxRecDepth 100000 in
theorem must_no (e : Int) (w : World) : Calls Try.prog 40 #[.bool false, .int .i64 e] w fun en w' => en = .panicked [errV e] ∧ w' = w := by
  go_enter Try.func40, Try.ntmps40
  go_wp2_with fail
  exact ⟨rfl, rfl, rfl⟩

theorem slice_in3 (W : World) (A : Option Addr) (m c p q : Nat) (l : List UInt8) (h : RB W A m c l) (hp : p ≤ q) (hq : q ≤ m) : ∃ A' c', (∀ W' : World, (Instr.slice 23 (.slice A m c) (some (.int .i64 (p : Int))) (some (.int .i64 (q : Int))) (some (.int .i64 (q : Int)))).run Try.prog W' = .ok (.slice A' (q - p) c') W') ∧ RB W A' (q - p) c' ((l.take q).drop p) ∧ Within A A' := by
  obtain ⟨A', c', h1, h2, h3⟩ := sliced_RB W A m c p q q l h hp hq (by omega) (by have := h.mc; omega) (fun e => by have := (h.h.2.1 e).1; omega)
  exact ⟨A', c', fun W' => by rw [run_slice_lhm W' 23 A m c elem22 .i64 .i64 .i64 (p : Int) (q : Int) (q : Int) (by omega) (by omega) (by omega) (by have := h.mc; omega), size22, ← h1]; rfl, h2, h3⟩

set_option maxRecDepth 100000 in
set_option maxHeartbeats 1000000 in
theorem equal_any (A1 A2 : Option Addr) (n1 c1 n2 c2 : Nat) (l1 l2 : List UInt8) (w : World) (h1 : RB w A1 n1 c1 l1) (h2 : RB w A2 n2 c2 l2) (hn : n1 ≤ 1000) :
    Calls Try.prog 43 #[.slice A1 n1 c1, .slice A2 n2 c2] w fun e w' => e = .returned (.bool (decide (l1 = l2))) ∧ Below w.heap.size w w' := by
  have H1 := Lib.hid h1
  have H2 := Lib.hid h2
  have L1 := Lib.hid h1.len
  have L2 := Lib.hid h2.len
  have hn0 : (n1 : Int) ≤ 1000 := by omega
  clear h1 h2 hn
  by_cases hne : n1 = n2
  · subst hne
    have q0 : ((n1 : Int) != n1) = false := by simp
    go_enter Try.func43, Try.ntmps43
    go_wp2_with fail
    go_loopw [13] (fun ii wr => ∃ i : Nat, (i : Int) ≤ n1 ∧ ii = .int .i64 i ∧ Hid (l1.take i = l2.take i) ∧ Hid (Below w.heap.size w wr)) (fun ii _ => n1 - (intOf ii).toNat)
    case atStart => exact ⟨0, by omega, rfl, Lib.hid rfl, Lib.hid (Below.refl _ _)⟩
    case round =>
      obtain ⟨i, hi, rfl, HE, HB⟩ := hrel
      have hi0 : (0 : Int) ≤ i := by omega
      by_cases hlt : (i : Int) < n1
      · have hi1 : i < l1.length := by rw [L1.out]; omega
        have hi2 : i < l2.length := by rw [L2.out]; omega
        obtain ⟨b1, o1, rfl, hat1⟩ := H1.out.at (by omega)
        obtain ⟨b2, o2, rfl, hat2⟩ := H2.out.at (by omega)
        have k1 := (HB.out.cell (World.block_lt_of_cell? _ _ (hat1 i hi1))).trans (hat1 i hi1)
        have k2 := (HB.out.cell (World.block_lt_of_cell? _ _ (hat2 i hi2))).trans (hat2 i hi2)
        have HS : Hid (l1[i] = l2[i] → l1.take (i + 1) = l2.take (i + 1)) := Lib.hid fun h => by
          rw [List.take_succ_eq_append_getElem hi1, List.take_succ_eq_append_getElem hi2, HE.out, h]
        have HX : Hid (l1[i] ≠ l2[i] → l1 ≠ l2) := Lib.hid fun h e => by subst e; exact h rfl
        have HU : Hid (∀ x y : UInt8, (x.toNat : Int) = (y.toNat : Int) → x = y) := Lib.hid fun x y h => UInt8.toNat_inj.1 (by omega)
        generalize l1[i] = x at *
        generalize l2[i] = y at *
        obtain ⟨X, hX⟩ : ∃ X : Int, (x.toNat : Int) = X := ⟨_, rfl⟩
        obtain ⟨Y, hY⟩ : ∃ Y : Int, (y.toNat : Int) = Y := ⟨_, rfl⟩
        have HXY := Lib.hid (And.intro hX hY)
        rw [hX] at k1
        rw [hY] at k2
        clear hX hY hat1 hat2 hi1 hi2
        by_cases he : X = Y
        · have q1 : (X != Y) = false := by simpa using he
          have HT := Lib.hid (HS.out (HU.out x y (by have := HXY.out.1; have := HXY.out.2; omega)))
          clear he
          go_upto_region 6 with fail
          go_quiet (fail)
          go_wp2_with fail
          go_roundw
          case rel => exact ⟨i + 1, by omega, by go_num, HT, Lib.hid (below_drewN HB.out _)⟩
          case measure => simp [intOf]; omega
        · have q1 : (X != Y) = true := by simpa using he
          have HT := Lib.hid (HX.out (fun e => he (by have := HXY.out.1; have := HXY.out.2; rw [e] at *; omega)))
          clear he
          go_upto_region 6 with fail
          go_quiet (fail)
          go_wp2_with fail
          go_ret
          exact ⟨by rw [decide_eq_false HT.out]; rfl, below_drewN HB.out _⟩
      · have HLE := Lib.hid (show l1 = l2 by have h := HE.out; rw [List.take_of_length_le (by rw [L1.out]; omega), List.take_of_length_le (by rw [L2.out]; omega)] at h; exact h)
        go_wp2_with fail
        go_ret
        exact ⟨by rw [decide_eq_true HLE.out]; rfl, HB.out⟩
  · have q0 : ((n1 : Int) != n2) = true := by simp; omega
    have HT := Lib.hid (show l1 ≠ l2 from fun e => hne (by rw [← L1.out, ← L2.out, e]))
    clear hne
    go_enter Try.func43, Try.ntmps43
    go_wp2_with fail
    go_ret
    exact ⟨by rw [decide_eq_false HT.out]; rfl, Below.refl _ _⟩
end Go.Proofs.Ytgbkoegmoelheaa
