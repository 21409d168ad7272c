/- Whether packets are a block; the sum of bytes. -/
import Derived.Test.YtgbkoegmoelheaaCe
namespace Go.Proofs.Ytgbkoegmoelheaa
open Go.RowKit
set_option linter.unusedVariables false
set_option linter.unusedSimpArgs false

set_option maxRecDepth 100000 in
set_option maxHeartbeats 1000000 in
theorem block_any (A : Option Addr) (n c : Nat) (ps : List Pd) (w : World) (h : PL w A n c ps) (hn : n ≤ 200) (hd : ∀ p ∈ ps, 0 ≤ p.t ∧ p.t ≤ 1099511627776) (hm : ∀ p ∈ ps, p.n ≤ 30000) :
    Calls Try.prog 32 #[.slice A n c] w fun e w' => e = .returned (.bool (fitsP (pks ps))) ∧ Below w.heap.size w w' := by
  have C54 := Lib.hid (sorted_any A n c ps w h (by omega) hd)
  have C34 := Lib.hid (fun (W : World) (hb : Below w.heap.size w W) => size_any A n c ps W (h.below hb) hn hm)
  have hlen : (pks ps).length = n := by unfold pks; rw [List.length_map]; exact h.len
  have e : fitsP (pks ps) = (decide (1 ≤ (n : Int)) && (decide ((n : Int) ≤ 64) && (decide ((sizeP (pks ps) : Int) ≤ 8192) && ordP (pks ps)))) := by
    unfold fitsP
    rw [hlen]
    have e1 : decide (1 ≤ n) = decide (1 ≤ (n : Int)) := by congr 1; apply propext; omega
    have e2 : decide (n ≤ 64) = decide ((n : Int) ≤ 64) := by congr 1; apply propext; omega
    have e3 : decide (sizeP (pks ps) ≤ 8192) = decide ((sizeP (pks ps) : Int) ≤ 8192) := by congr 1; apply propext; omega
    rw [e1, e2, e3]
  have hs0 : (0 : Int) ≤ (sizeP (pks ps) : Int) := by omega
  rw [e]
  generalize ordP (pks ps) = b at *
  generalize (sizeP (pks ps) : Int) = s at *
  have hn0 : (n : Int) ≤ 200 := by omega
  clear e hlen h hn hd hm
  by_cases h1 : 1 ≤ (n : Int)
  · by_cases h2 : (n : Int) ≤ 64
    · by_cases h3 : s ≤ 8192
      · rw [decide_eq_true h1, decide_eq_true h2, decide_eq_true h3]
        have h3' : decide (s ≤ 8192) = true := decide_eq_true h3
        go_enter Try.func32, Try.ntmps32
        go_wp2_with (first | (go_at_call 54; (with_reducible refine C54.out.mono ?_); rintro e w1 ⟨rfl, hb⟩; have HB := Lib.hid hb; clear hb) | (go_at_call 34; (with_reducible refine (C34.out _ HB.out).mono ?_); rintro e w2 ⟨rfl, hb2⟩; have HB2 := Lib.hid (HB.out.trans (hb2.mono HB.out.size)); clear hb2))
        go_ret
        exact ⟨rfl, HB2.out⟩
      · rw [decide_eq_true h1, decide_eq_true h2, decide_eq_false h3]
        have h3' : decide (s ≤ 8192) = false := decide_eq_false h3
        go_enter Try.func32, Try.ntmps32
        go_wp2_with (first | (go_at_call 54; (with_reducible refine C54.out.mono ?_); rintro e w1 ⟨rfl, hb⟩; have HB := Lib.hid hb; clear hb) | (go_at_call 34; (with_reducible refine (C34.out _ HB.out).mono ?_); rintro e w2 ⟨rfl, hb2⟩; have HB2 := Lib.hid (HB.out.trans (hb2.mono HB.out.size)); clear hb2))
        go_ret
        exact ⟨rfl, HB2.out⟩
    · rw [decide_eq_true h1, decide_eq_false h2]
      go_enter Try.func32, Try.ntmps32
      go_wp2_with (go_at_call 54; (with_reducible refine C54.out.mono ?_); rintro e w1 ⟨rfl, hb⟩; have HB := Lib.hid hb; clear hb)
      go_ret
      exact ⟨rfl, HB.out⟩
  · rw [decide_eq_false h1]
    go_enter Try.func32, Try.ntmps32
    go_wp2_with (go_at_call 54; (with_reducible refine C54.out.mono ?_); rintro e w1 ⟨rfl, hb⟩; have HB := Lib.hid hb; clear hb)
    go_ret
    exact ⟨rfl, HB.out⟩

theorem RB.bs {w : World} {A : Option Addr} {n c : Nat} {l : List UInt8} (h : RB w A n c l) : BS w w.heap.size A l := fun h0 => by
  have h0n : 0 < n := by rw [← h.len]; exact h0
  cases A with
  | none => have := (h.h.2.1 rfl).1; omega
  | some a =>
    have h1 := h.h.2.2 a rfl 0 (u8 l[0]) (by simp [List.getElem?_eq_getElem h0])
    have hs : a.spot = none := by have := World.cell?_spot h1; simpa [Addr.add] using this
    have hlt := h.lt h0n rfl
    obtain ⟨b, o, sp⟩ := a
    simp at hs
    subst hs
    refine ⟨b, o, rfl, hlt, fun i hi => ?_⟩
    have h2 := h.h.2.2 _ rfl i (u8 l[i]) (by simp [List.getElem?_eq_getElem hi])
    rw [Addr.add_lit] at h2
    exact h2
theorem adlN_cast (l : List UInt8) : ((adlN l : Nat) : Int) = Ck.chkS 3 l ∧ adlN l < 4294967296 := by
  have hr := Ck.adlS_range l 1 0 (by omega) (by omega) (by omega) (by omega)
  have e : Ck.chkS 3 l = (Ck.adlS 1 0 l).2 * 65536 + (Ck.adlS 1 0 l).1 := by simp [Ck.chkS]
  rw [e]
  unfold adlN
  omega

set_option maxRecDepth 100000 in
set_option maxHeartbeats 1000000 in
theorem sum_any (A : Option Addr) (n c : Nat) (l : List UInt8) (w : World) (h : RB w A n c l) (hn : n ≤ 60000) :
    Calls Try.prog 36 #[.slice A n c] w fun e w' => Fresh w (be (adlN l) 4) (fun v => v) e w' := by
  have C56 := Lib.hid (Ck.ofx_3 A n c l w h.len hn h.bs)
  obtain ⟨hc, hlt⟩ := adlN_cast l
  rw [← hc] at C56
  have C33 : Hid (∀ W : World, Calls Try.prog 33 #[.slice none 0 0, .int .i64 (adlN l : Int), .int .i64 4] W fun e w' => ∃ v', e = .returned v' ∧ PutS W w' W.heap.size (.slice none 0 0) ([] ++ be (adlN l) 4) v') := Lib.hid (fun (W : World) => put_any W.heap.size (.slice none 0 0) [] (adlN l) 4 W (World.ownsRow_nil W _ 5 1) (Nat.le_refl _) (by omega) (by omega) (by simp))
  generalize adlN l = x at *
  clear hc h hn hlt
  go_enter Try.func36, Try.ntmps36
  go_wp2_with (first | (go_at_call 56; (with_reducible refine C56.out.mono ?_); rintro e w1 ⟨rfl, hb⟩; have HB := Lib.hid hb; clear hb) | (go_at_call 33; (with_reducible refine (C33.out _).mono ?_); rintro e w2 ⟨v2, rfl, hp⟩; have HP := Lib.hid hp; clear hp))
  go_ret
  have := HP.out.own
  refine ⟨_, rfl, own_base (by simpa [be_length] using this) HB.out.size, HB.out.trans ((HP.out.only.to_below (Nat.le_refl _) (fun b _ e => by cases e)).mono HB.out.size)⟩
end Go.Proofs.Ytgbkoegmoelheaa
