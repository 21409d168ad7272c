/- The reference's packets. -/
import Derived.Test.YtgbkoegmoelheaaCu
import Derived.Deep.CutRange
namespace Go.Proofs.Ytgbkoegmoelheaa
open Go.RowKit
set_option linter.unusedVariables false
set_option linter.unusedSimpArgs false

theorem sub_eq (l : List UInt8) (a p q : Nat) : ((l.drop a).take q).drop p = (l.take (a + q)).drop (a + p) := by
  rw [List.take_drop, List.drop_drop]
theorem sub_eq0 (l : List UInt8) (a q : Nat) : (l.drop a).take q = (l.take (a + q)).drop a := by
  rw [List.take_drop]
/-- A round's state. -/
structure PackJ (w wr : World) (lk : Option (List Pk)) (l : List UInt8) (r at_ : Nat) (v : Value) (ds : List Pd) : Prop where
  below : Below w.heap.size w wr
  po : PO w.heap.size wr v ds
  eq : lk = (packs (l.drop at_) r).map (pks ds ++ ·)
  dn : ∀ p ∈ ds, p.n ≤ 4096
/-- What the reference's packets returns. -/
def RPackR (w : World) (o : Option (List Pk)) (e : Ending) (w' : World) : Prop :=
  Below w.heap.size w w' ∧ ∃ v ok ds, e = .returned (.tuple #[v, .bool ok]) ∧ (ok = true → PO w.heap.size w' v ds ∧ o = some (pks ds) ∧ fitsP (pks ds) = true) ∧ (ok = false → ∀ q, o = some q → fitsP q = false)
theorem RPackR.none {w w' : World} {o : Option (List Pk)} (ho : o = none) (hb : Below w.heap.size w w') : RPackR w o (.returned (.tuple #[.slice none 0 0, .bool false])) w' :=
  ⟨hb, _, false, [], rfl, fun h => (by cases h), fun _ q hq => by rw [ho] at hq; cases hq⟩

set_option maxRecDepth 100000 in
set_option maxHeartbeats 8000000 in
theorem rpackets_any (A : Option Addr) (n c : Nat) (l : List UInt8) (k : Nat) (w : World) (h : RB w A n c l) (hn : n ≤ 10000) (hk : k ≤ 64) :
    Calls Try.prog 45 #[.slice A n c, .int .i64 (k : Int)] w (RPackR w (packs l k)) := by
  obtain ⟨lk, hlk⟩ : ∃ lk, packs l k = lk := ⟨_, rfl⟩
  rw [hlk]
  have HI0 := Lib.hid (show PackJ w w lk l k 0 (.slice none 0 0) [] from ⟨Below.refl _ _, PO.nil _ _, by rw [List.drop_zero, hlk]; simp [pks], fun p hp => by cases hp⟩)
  have HRB := Lib.hid h
  have HLN := Lib.hid h.len
  have HN := Lib.hid hn
  have hk0 : (k : Int) ≤ 64 := by omega
  have hn0 : (n : Int) ≤ 10000 := by omega
  clear h hn hk hlk
  go_enter Try.func45, Try.ntmps45
  go_wp2_with fail
  go_loopw [6, 7, 8] (fun vv aa ii wr => ∃ (i at_ : Nat) (v : Value) (ds : List Pd), (i : Int) ≤ k ∧ ii = .int .i64 i ∧ aa = .int .i64 (at_ : Int) ∧ v = vv ∧ Hid (at_ ≤ n ∧ ds.length = i) ∧ Hid (PackJ w wr lk l (k - i) at_ v ds)) (fun _ _ ii _ => k - (intOf ii).toNat)
  case atStart => exact ⟨0, 0, _, [], by omega, rfl, rfl, rfl, Lib.hid ⟨Nat.zero_le _, rfl⟩, HI0⟩
  case round =>
    clear HI0
    obtain ⟨i, at_, v, ds, hi, rfl, rfl, rfl, HAL, HI⟩ := hrel
    have hi0 : (0 : Int) ≤ i := by omega
    obtain ⟨wo, rfl⟩ : ∃ wo : World, wo = wr := ⟨_, rfl⟩
    obtain ⟨AT, hAT⟩ : ∃ AT : Int, (at_ : Int) = AT := ⟨_, rfl⟩
    rw [hAT]
    have HA := Lib.hid hAT
    have hA0 : 0 ≤ AT := by omega
    have hA1 : AT ≤ 10000 := by have := HAL.out; omega
    have HAT := Lib.hid hA0
    by_cases hlt : (i : Int) < k
    · obtain ⟨r, hr⟩ : ∃ r, k - i = r + 1 := ⟨k - i - 1, by omega⟩
      have HR := Lib.hid hr
      have HPE : Hid (lk = (packs (l.drop at_) (r + 1)).map (pks ds ++ ·)) := Lib.hid (by rw [← hr]; exact HI.out.eq)
      have HLT := Lib.hid (show (l.drop at_).length = n - at_ by rw [List.length_drop, HLN.out])
      clear hr hAT
      by_cases h10 : (n : Int) < AT + 10
      case pos =>
        have q0 : decide ((n : Int) < AT + 10) = true := decide_eq_true h10
        have HF := Lib.hid (show lk = none by rw [HPE.out, packs_succ, if_pos (by rw [HLT.out]; have := HA.out; have := HAL.out; omega)]; rfl)
        clear h10
        go_wp2_with fail
        go_ret2
        exact RPackR.none HF.out HI.out.below
      case neg =>
      have q0 : decide ((n : Int) < AT + 10) = false := decide_eq_false h10
      have H10 := Lib.hid (show at_ + 10 ≤ n by have := HA.out; omega)
      obtain ⟨A0, c0, hs0, hr0, -⟩ := slice_in w A n c (at_ + 8) (at_ + 10) l HRB.out (by omega) H10.out
      have e2 : at_ + 10 - (at_ + 8) = 2 := by omega
      rw [e2] at hs0 hr0
      have e8 : ((at_ + 8 : Nat) : Int) = AT + 8 := by have := HA.out; omega
      have e10 : ((at_ + 10 : Nat) : Int) = AT + 10 := by have := HA.out; omega
      rw [e8, e10] at hs0
      rw [← sub_eq] at hr0
      obtain ⟨s, hs⟩ : ∃ s, num (((l.drop at_).take 10).drop 8) = s := ⟨_, rfl⟩
      have C44 := rget_any A0 2 c0 _ wo (hr0.below HI.out.below) (by omega)
      have hsl := num_lt (((l.drop at_).take 10).drop 8)
      rw [hr0.len, hs] at hsl
      rw [hs] at C44
      obtain ⟨X, hX⟩ : ∃ X : Int, (s : Int) = X := ⟨_, rfl⟩
      rw [hX] at C44
      have C44 := Lib.hid C44
      have hX0 : 0 ≤ X := by omega
      have hX1 : X < 65536 := by omega
      have HS := Lib.hid hs
      have HX := Lib.hid hX
      have hs0' : ∀ W' : World, (Instr.slice 23 (.slice A n c) (some (.int .i64 (AT + 8))) (some (.int .i64 (AT + 10))) none).run Try.prog W' = .ok (.slice A0 2 c0) W' := hs0
      clear hs hsl hX hs0 hr0 e2 e8 e10 h10
      go_wp2_with (go_at_call 44; (with_reducible refine C44.out.mono ?_); rintro e w' ⟨rfl, hw⟩; replace hw := hw.symm; subst hw; refine Hid.out ?_)
      refine Lib.hid ?_
      clear hs0'
      by_cases hE : (n : Int) < AT + 10 + X
      case pos =>
        have q1 : decide ((n : Int) < AT + 10 + X) = true := decide_eq_true hE
        have HF := Lib.hid (show lk = none by rw [HPE.out, packs_succ, if_neg (by rw [HLT.out]; have := H10.out; omega), HS.out, if_pos (by rw [HLT.out]; have := HA.out; have := HAL.out; have := HX.out; omega)]; rfl)
        clear hE
        go_wp2_with fail
        go_ret2
        exact RPackR.none HF.out HI.out.below
      case neg =>
      have q1 : decide ((n : Int) < AT + 10 + X) = false := decide_eq_false hE
      have HAE := Lib.hid (show at_ + 10 + s ≤ n by have := HA.out; have := HX.out; omega)
      have HPE2 : Hid (lk = (if validP ⟨num ((l.drop at_).take 6), num (((l.drop at_).take 8).drop 6), ((l.drop at_).take (10 + s)).drop 10⟩ = true then (packs ((l.drop at_).drop (10 + s)) r).map ((⟨num ((l.drop at_).take 6), num (((l.drop at_).take 8).drop 6), ((l.drop at_).take (10 + s)).drop 10⟩ : Pk) :: ·) else none).map (pks ds ++ ·)) := Lib.hid (by rw [HPE.out, packs_succ, if_neg (by rw [HLT.out]; have := H10.out; omega), HS.out, if_neg (by rw [HLT.out]; have := HAE.out; omega)])
      obtain ⟨A1, c1, hs1, hr1, -⟩ := slice_in w A n c at_ (at_ + 6) l HRB.out (by omega) (by have := H10.out; omega)
      obtain ⟨A2, c2, hs2, hr2, -⟩ := slice_in w A n c (at_ + 6) (at_ + 8) l HRB.out (by omega) (by have := H10.out; omega)
      obtain ⟨A3, c3, hs3, hr3, -⟩ := slice_in w A n c (at_ + 10) (at_ + (10 + s)) l HRB.out (by omega) (by have := HAE.out; omega)
      rw [show at_ + 6 - at_ = 6 by omega] at hs1 hr1
      rw [show at_ + 8 - (at_ + 6) = 2 by omega] at hs2 hr2
      rw [show at_ + (10 + s) - (at_ + 10) = s by omega] at hs3 hr3
      rw [← sub_eq0] at hr1
      rw [← sub_eq] at hr2 hr3
      rw [HA.out, show ((at_ + 6 : Nat) : Int) = AT + 6 by have := HA.out; omega] at hs1
      rw [show ((at_ + 6 : Nat) : Int) = AT + 6 by have := HA.out; omega, show ((at_ + 8 : Nat) : Int) = AT + 8 by have := HA.out; omega] at hs2
      rw [show ((at_ + 10 : Nat) : Int) = AT + 10 by have := HA.out; omega, show ((at_ + (10 + s) : Nat) : Int) = AT + 10 + X by have := HA.out; have := HX.out; omega] at hs3
      have HS1 : Hid (∀ W' : World, (Instr.slice 23 (.slice A n c) (some (.int .i64 AT)) (some (.int .i64 (AT + 6))) none).run Try.prog W' = .ok (.slice A1 6 c1) W') := Lib.hid hs1
      have HS2 : Hid (∀ W' : World, (Instr.slice 23 (.slice A n c) (some (.int .i64 (AT + 6))) (some (.int .i64 (AT + 8))) none).run Try.prog W' = .ok (.slice A2 2 c2) W') := Lib.hid hs2
      have HS3 : Hid (∀ W' : World, (Instr.slice 23 (.slice A n c) (some (.int .i64 (AT + 10))) (some (.int .i64 (AT + 10 + X))) none).run Try.prog W' = .ok (.slice A3 s c3) W') := Lib.hid hs3
      obtain ⟨Tm, hTm⟩ : ∃ Tm : Int, (num ((l.drop at_).take 6) : Int) = Tm := ⟨_, rfl⟩
      obtain ⟨Fl, hFl⟩ : ∃ Fl : Int, (num (((l.drop at_).take 8).drop 6) : Int) = Fl := ⟨_, rfl⟩
      have hbw := HI.out.below
      have C44a := Lib.hid (fun (W : World) (hb : Below wo.heap.size wo W) => rget_any A1 6 c1 _ W ((hr1.below hbw).below hb) (by omega))
      have C44b := Lib.hid (fun (W : World) (hb : Below wo.heap.size wo W) => rget_any A2 2 c2 _ W ((hr2.below hbw).below hb) (by omega))
      have HR3 := Lib.hid (fun (W : World) (hb : Below wo.heap.size wo W) => (hr3.below hbw).below hb)
      rw [hTm] at C44a
      rw [hFl] at C44b
      obtain ⟨ys, hys⟩ : ∃ ys, ((l.drop at_).take (10 + s)).drop 10 = ys := ⟨_, rfl⟩
      rw [hys] at HR3 HPE2
      have hysl : ys.length = s := by rw [← hys]; exact hr3.len
      have HYL := Lib.hid hysl
      have hT1 := num_lt ((l.drop at_).take 6)
      have hF1 := num_lt (((l.drop at_).take 8).drop 6)
      rw [hr1.len] at hT1
      rw [hr2.len] at hF1
      have HTM := Lib.hid (show 0 ≤ Tm ∧ Tm < 281474976710656 by omega)
      have HFL := Lib.hid (show 0 ≤ Fl ∧ Fl < 65536 by omega)
      have hpk : (⟨num ((l.drop at_).take 6), num (((l.drop at_).take 8).drop 6), ys⟩ : Pk) = ⟨Tm, Fl, ys⟩ := by rw [hTm, hFl]
      rw [hpk] at HPE2
      have HX1 := Lib.hid (show s < 65536 by have := HX.out; omega)
      have HW6 : Hid (IntKind.i64.wrap (AT + 6) = AT + 6) := Lib.hid (by rw [IntKind.wrap_i64]; omega)
      have HW8 : Hid (IntKind.i64.wrap (AT + 8) = AT + 8) := Lib.hid (by rw [IntKind.wrap_i64]; omega)
      have HW10 : Hid (IntKind.i64.wrap (AT + 10) = AT + 10) := Lib.hid (by rw [IntKind.wrap_i64]; omega)
      have HW11 : Hid (IntKind.i64.wrap (AT + 10 + X) = AT + 10 + X) := Lib.hid (by rw [IntKind.wrap_i64]; omega)
      have HH := Lib.hid (And.intro hi0 (And.intro hlt (And.intro hn0 (And.intro hX0 (And.intro hX1 (And.intro hk0 (And.intro hA0 hA1)))))))
      have HPO := Lib.hid HI.out.po
      clear hs1 hs2 hs3 hr1 hr2 hr3 hTm hFl hys hysl hT1 hF1 hpk hbw hE
      go_upto_region 11 with fail
      clear hi0 hlt hn0 hX0 hX1 hk0 hi hA0 hA1 q1 q0
      go_cut [10] from 11 to 68 (fun p6 wx => ∃ (g : Nat) (A6 : Option Addr) (c6 : Nat), p6 = .pointer (some ⟨g, 0, none⟩) ∧ Hid (Reg6 wo wx g Tm Fl (.slice A6 s c6) s ys))
      case first =>
        have HBc := Lib.hid (below_drew (Below.refl wo.heap.size wo))
        refine wp_region_G (S0 := (fun _ => True)) (S1 := (fun _ => True)) (c := 99) (by kernel_rfl) ?_
        have hHeld := trivial
        have h01 := (fun (W : World) (h : (fun _ => True) W) => h)
        refine wpG_takeB (i := 0) (oi := ⟨some 35, _, _, _, _, _⟩) (v := .slice A n c) rfl (by kernel_rfl) (by kernel_rfl) (by kernel_rfl) (by decide) (fun _ _ _ h => h) h01 rfl hHeld (Or.inl ⟨by rfl, ?_⟩) ?_
        · (intro W9 hSw; have g1 := HS1.out; have g2 := HS2.out; have g3 := HS3.out; have y0 := HAT.out; go_simp; (try (first | with_reducible rfl | rfl | (exact HS1.out _) | (exact HS2.out _) | (exact HS3.out _) | (rw [HW6.out]; done) | (rw [HW8.out]; done) | (rw [HW10.out]; done) | (rw [HW11.out]; done) | (simp; done))))
        try simp only [Act.put, List.setIfInBounds_toArray, List.set_cons_zero, List.set_cons_succ]
        refine wpG_takeB (i := 1) (oi := ⟨some 36, _, _, _, _, _⟩) (v := .int .i64 AT) rfl (by kernel_rfl) (by kernel_rfl) (by kernel_rfl) (by decide) (fun _ _ _ h => h) h01 rfl hHeld (Or.inl ⟨by rfl, ?_⟩) ?_
        · (intro W9 hSw; have g1 := HS1.out; have g2 := HS2.out; have g3 := HS3.out; have y0 := HAT.out; go_simp; (try (first | with_reducible rfl | rfl | (exact HS1.out _) | (exact HS2.out _) | (exact HS3.out _) | (rw [HW6.out]; done) | (rw [HW8.out]; done) | (rw [HW10.out]; done) | (rw [HW11.out]; done) | (simp; done))))
        try simp only [Act.put, List.setIfInBounds_toArray, List.set_cons_zero, List.set_cons_succ]
        refine wpG_takeB (i := 2) (oi := ⟨some 37, _, _, _, _, _⟩) (v := .int .i64 AT) rfl (by kernel_rfl) (by kernel_rfl) (by kernel_rfl) (by decide) (fun _ _ _ h => h) h01 rfl hHeld (Or.inl ⟨by rfl, ?_⟩) ?_
        · (intro W9 hSw; have g1 := HS1.out; have g2 := HS2.out; have g3 := HS3.out; have y0 := HAT.out; go_simp; (try (first | with_reducible rfl | rfl | (exact HS1.out _) | (exact HS2.out _) | (exact HS3.out _) | (rw [HW6.out]; done) | (rw [HW8.out]; done) | (rw [HW10.out]; done) | (rw [HW11.out]; done) | (simp; done))))
        try simp only [Act.put, List.setIfInBounds_toArray, List.set_cons_zero, List.set_cons_succ]
        refine wpG_takeB (i := 3) (oi := ⟨some 38, _, _, _, _, _⟩) (v := .int .i64 (AT + 6)) rfl (by kernel_rfl) (by kernel_rfl) (by kernel_rfl) (by decide) (fun _ _ _ h => h) h01 rfl hHeld (Or.inl ⟨by rfl, ?_⟩) ?_
        · (intro W9 hSw; have g1 := HS1.out; have g2 := HS2.out; have g3 := HS3.out; have y0 := HAT.out; go_simp; (try (first | with_reducible rfl | rfl | (exact HS1.out _) | (exact HS2.out _) | (exact HS3.out _) | (rw [HW6.out]; done) | (rw [HW8.out]; done) | (rw [HW10.out]; done) | (rw [HW11.out]; done) | (simp; done))))
        try simp only [Act.put, List.setIfInBounds_toArray, List.set_cons_zero, List.set_cons_succ]
        refine wpG_takeB (i := 4) (oi := ⟨some 39, _, _, _, _, _⟩) (v := .slice A1 6 c1) rfl (by kernel_rfl) (by kernel_rfl) (by kernel_rfl) (by decide) (fun _ _ _ h => h) h01 rfl hHeld (Or.inl ⟨by rfl, ?_⟩) ?_
        · (intro W9 hSw; have g1 := HS1.out; have g2 := HS2.out; have g3 := HS3.out; have y0 := HAT.out; go_simp; (try (first | with_reducible rfl | rfl | (exact HS1.out _) | (exact HS2.out _) | (exact HS3.out _) | (rw [HW6.out]; done) | (rw [HW8.out]; done) | (rw [HW10.out]; done) | (rw [HW11.out]; done) | (simp; done))))
        try simp only [Act.put, List.setIfInBounds_toArray, List.set_cons_zero, List.set_cons_succ]
        refine wpG_takeB (i := 6) (oi := ⟨some 41, _, _, _, _, _⟩) (v := .slice A n c) rfl (by kernel_rfl) (by kernel_rfl) (by kernel_rfl) (by decide) (fun _ _ _ h => h) h01 rfl hHeld (Or.inl ⟨by rfl, ?_⟩) ?_
        · (intro W9 hSw; have g1 := HS1.out; have g2 := HS2.out; have g3 := HS3.out; have y0 := HAT.out; go_simp; (try (first | with_reducible rfl | rfl | (exact HS1.out _) | (exact HS2.out _) | (exact HS3.out _) | (rw [HW6.out]; done) | (rw [HW8.out]; done) | (rw [HW10.out]; done) | (rw [HW11.out]; done) | (simp; done))))
        try simp only [Act.put, List.setIfInBounds_toArray, List.set_cons_zero, List.set_cons_succ]
        refine wpG_takeB (i := 7) (oi := ⟨some 42, _, _, _, _, _⟩) (v := .int .i64 AT) rfl (by kernel_rfl) (by kernel_rfl) (by kernel_rfl) (by decide) (fun _ _ _ h => h) h01 rfl hHeld (Or.inl ⟨by rfl, ?_⟩) ?_
        · (intro W9 hSw; have g1 := HS1.out; have g2 := HS2.out; have g3 := HS3.out; have y0 := HAT.out; go_simp; (try (first | with_reducible rfl | rfl | (exact HS1.out _) | (exact HS2.out _) | (exact HS3.out _) | (rw [HW6.out]; done) | (rw [HW8.out]; done) | (rw [HW10.out]; done) | (rw [HW11.out]; done) | (simp; done))))
        try simp only [Act.put, List.setIfInBounds_toArray, List.set_cons_zero, List.set_cons_succ]
        refine wpG_takeB (i := 8) (oi := ⟨some 43, _, _, _, _, _⟩) (v := .int .i64 (AT + 6)) rfl (by kernel_rfl) (by kernel_rfl) (by kernel_rfl) (by decide) (fun _ _ _ h => h) h01 rfl hHeld (Or.inl ⟨by rfl, ?_⟩) ?_
        · (intro W9 hSw; have g1 := HS1.out; have g2 := HS2.out; have g3 := HS3.out; have y0 := HAT.out; go_simp; (try (first | with_reducible rfl | rfl | (exact HS1.out _) | (exact HS2.out _) | (exact HS3.out _) | (rw [HW6.out]; done) | (rw [HW8.out]; done) | (rw [HW10.out]; done) | (rw [HW11.out]; done) | (simp; done))))
        try simp only [Act.put, List.setIfInBounds_toArray, List.set_cons_zero, List.set_cons_succ]
        refine wpG_takeB (i := 9) (oi := ⟨some 44, _, _, _, _, _⟩) (v := .int .i64 AT) rfl (by kernel_rfl) (by kernel_rfl) (by kernel_rfl) (by decide) (fun _ _ _ h => h) h01 rfl hHeld (Or.inl ⟨by rfl, ?_⟩) ?_
        · (intro W9 hSw; have g1 := HS1.out; have g2 := HS2.out; have g3 := HS3.out; have y0 := HAT.out; go_simp; (try (first | with_reducible rfl | rfl | (exact HS1.out _) | (exact HS2.out _) | (exact HS3.out _) | (rw [HW6.out]; done) | (rw [HW8.out]; done) | (rw [HW10.out]; done) | (rw [HW11.out]; done) | (simp; done))))
        try simp only [Act.put, List.setIfInBounds_toArray, List.set_cons_zero, List.set_cons_succ]
        refine wpG_takeB (i := 10) (oi := ⟨some 45, _, _, _, _, _⟩) (v := .int .i64 (AT + 8)) rfl (by kernel_rfl) (by kernel_rfl) (by kernel_rfl) (by decide) (fun _ _ _ h => h) h01 rfl hHeld (Or.inl ⟨by rfl, ?_⟩) ?_
        · (intro W9 hSw; have g1 := HS1.out; have g2 := HS2.out; have g3 := HS3.out; have y0 := HAT.out; go_simp; (try (first | with_reducible rfl | rfl | (exact HS1.out _) | (exact HS2.out _) | (exact HS3.out _) | (rw [HW6.out]; done) | (rw [HW8.out]; done) | (rw [HW10.out]; done) | (rw [HW11.out]; done) | (simp; done))))
        try simp only [Act.put, List.setIfInBounds_toArray, List.set_cons_zero, List.set_cons_succ]
        refine wpG_takeB (i := 11) (oi := ⟨some 46, _, _, _, _, _⟩) (v := .slice A2 2 c2) rfl (by kernel_rfl) (by kernel_rfl) (by kernel_rfl) (by decide) (fun _ _ _ h => h) h01 rfl hHeld (Or.inl ⟨by rfl, ?_⟩) ?_
        · (intro W9 hSw; have g1 := HS1.out; have g2 := HS2.out; have g3 := HS3.out; have y0 := HAT.out; go_simp; (try (first | with_reducible rfl | rfl | (exact HS1.out _) | (exact HS2.out _) | (exact HS3.out _) | (rw [HW6.out]; done) | (rw [HW8.out]; done) | (rw [HW10.out]; done) | (rw [HW11.out]; done) | (simp; done))))
        try simp only [Act.put, List.setIfInBounds_toArray, List.set_cons_zero, List.set_cons_succ]
        refine wpG_takeB (i := 13) (oi := ⟨some 48, _, _, _, _, _⟩) (v := .slice A n c) rfl (by kernel_rfl) (by kernel_rfl) (by kernel_rfl) (by decide) (fun _ _ _ h => h) h01 rfl hHeld (Or.inl ⟨by rfl, ?_⟩) ?_
        · (intro W9 hSw; have g1 := HS1.out; have g2 := HS2.out; have g3 := HS3.out; have y0 := HAT.out; go_simp; (try (first | with_reducible rfl | rfl | (exact HS1.out _) | (exact HS2.out _) | (exact HS3.out _) | (rw [HW6.out]; done) | (rw [HW8.out]; done) | (rw [HW10.out]; done) | (rw [HW11.out]; done) | (simp; done))))
        try simp only [Act.put, List.setIfInBounds_toArray, List.set_cons_zero, List.set_cons_succ]
        refine wpG_takeB (i := 14) (oi := ⟨some 49, _, _, _, _, _⟩) (v := .int .i64 AT) rfl (by kernel_rfl) (by kernel_rfl) (by kernel_rfl) (by decide) (fun _ _ _ h => h) h01 rfl hHeld (Or.inl ⟨by rfl, ?_⟩) ?_
        · (intro W9 hSw; have g1 := HS1.out; have g2 := HS2.out; have g3 := HS3.out; have y0 := HAT.out; go_simp; (try (first | with_reducible rfl | rfl | (exact HS1.out _) | (exact HS2.out _) | (exact HS3.out _) | (rw [HW6.out]; done) | (rw [HW8.out]; done) | (rw [HW10.out]; done) | (rw [HW11.out]; done) | (simp; done))))
        try simp only [Act.put, List.setIfInBounds_toArray, List.set_cons_zero, List.set_cons_succ]
        refine wpG_takeB (i := 15) (oi := ⟨some 50, _, _, _, _, _⟩) (v := .int .i64 (AT + 10)) rfl (by kernel_rfl) (by kernel_rfl) (by kernel_rfl) (by decide) (fun _ _ _ h => h) h01 rfl hHeld (Or.inl ⟨by rfl, ?_⟩) ?_
        · (intro W9 hSw; have g1 := HS1.out; have g2 := HS2.out; have g3 := HS3.out; have y0 := HAT.out; go_simp; (try (first | with_reducible rfl | rfl | (exact HS1.out _) | (exact HS2.out _) | (exact HS3.out _) | (rw [HW6.out]; done) | (rw [HW8.out]; done) | (rw [HW10.out]; done) | (rw [HW11.out]; done) | (simp; done))))
        try simp only [Act.put, List.setIfInBounds_toArray, List.set_cons_zero, List.set_cons_succ]
        refine wpG_takeB (i := 16) (oi := ⟨some 51, _, _, _, _, _⟩) (v := .int .i64 AT) rfl (by kernel_rfl) (by kernel_rfl) (by kernel_rfl) (by decide) (fun _ _ _ h => h) h01 rfl hHeld (Or.inl ⟨by rfl, ?_⟩) ?_
        · (intro W9 hSw; have g1 := HS1.out; have g2 := HS2.out; have g3 := HS3.out; have y0 := HAT.out; go_simp; (try (first | with_reducible rfl | rfl | (exact HS1.out _) | (exact HS2.out _) | (exact HS3.out _) | (rw [HW6.out]; done) | (rw [HW8.out]; done) | (rw [HW10.out]; done) | (rw [HW11.out]; done) | (simp; done))))
        try simp only [Act.put, List.setIfInBounds_toArray, List.set_cons_zero, List.set_cons_succ]
        refine wpG_takeB (i := 17) (oi := ⟨some 52, _, _, _, _, _⟩) (v := .int .i64 (AT + 10)) rfl (by kernel_rfl) (by kernel_rfl) (by kernel_rfl) (by decide) (fun _ _ _ h => h) h01 rfl hHeld (Or.inl ⟨by rfl, ?_⟩) ?_
        · (intro W9 hSw; have g1 := HS1.out; have g2 := HS2.out; have g3 := HS3.out; have y0 := HAT.out; go_simp; (try (first | with_reducible rfl | rfl | (exact HS1.out _) | (exact HS2.out _) | (exact HS3.out _) | (rw [HW6.out]; done) | (rw [HW8.out]; done) | (rw [HW10.out]; done) | (rw [HW11.out]; done) | (simp; done))))
        try simp only [Act.put, List.setIfInBounds_toArray, List.set_cons_zero, List.set_cons_succ]
        refine wpG_takeB (i := 18) (oi := ⟨some 53, _, _, _, _, _⟩) (v := .int .i64 X) rfl (by kernel_rfl) (by kernel_rfl) (by kernel_rfl) (by decide) (fun _ _ _ h => h) h01 rfl hHeld (Or.inl ⟨by rfl, ?_⟩) ?_
        · (intro W9 hSw; have g1 := HS1.out; have g2 := HS2.out; have g3 := HS3.out; have y0 := HAT.out; go_simp; (try (first | with_reducible rfl | rfl | (exact HS1.out _) | (exact HS2.out _) | (exact HS3.out _) | (rw [HW6.out]; done) | (rw [HW8.out]; done) | (rw [HW10.out]; done) | (rw [HW11.out]; done) | (simp; done))))
        try simp only [Act.put, List.setIfInBounds_toArray, List.set_cons_zero, List.set_cons_succ]
        refine wpG_takeB (i := 19) (oi := ⟨some 54, _, _, _, _, _⟩) (v := .int .i64 (AT + 10 + X)) rfl (by kernel_rfl) (by kernel_rfl) (by kernel_rfl) (by decide) (fun _ _ _ h => h) h01 rfl hHeld (Or.inl ⟨by rfl, ?_⟩) ?_
        · (intro W9 hSw; have g1 := HS1.out; have g2 := HS2.out; have g3 := HS3.out; have y0 := HAT.out; go_simp; (try (first | with_reducible rfl | rfl | (exact HS1.out _) | (exact HS2.out _) | (exact HS3.out _) | (rw [HW6.out]; done) | (rw [HW8.out]; done) | (rw [HW10.out]; done) | (rw [HW11.out]; done) | (simp; done))))
        try simp only [Act.put, List.setIfInBounds_toArray, List.set_cons_zero, List.set_cons_succ]
        refine wpG_takeB (i := 20) (oi := ⟨some 55, _, _, _, _, _⟩) (v := .slice A3 s c3) rfl (by kernel_rfl) (by kernel_rfl) (by kernel_rfl) (by decide) (fun _ _ _ h => h) h01 rfl hHeld (Or.inl ⟨by rfl, ?_⟩) ?_
        · (intro W9 hSw; have g1 := HS1.out; have g2 := HS2.out; have g3 := HS3.out; have y0 := HAT.out; go_simp; (try (first | with_reducible rfl | rfl | (exact HS1.out _) | (exact HS2.out _) | (exact HS3.out _) | (rw [HW6.out]; done) | (rw [HW8.out]; done) | (rw [HW10.out]; done) | (rw [HW11.out]; done) | (simp; done))))
        try simp only [Act.put, List.setIfInBounds_toArray, List.set_cons_zero, List.set_cons_succ]
        refine wpG_twoB (i := 5) (j := 23) (oi := ⟨some 40, _, _, _, _, _⟩) (oj := ⟨some 10, _, _, _, _, _⟩) (by kernel_rfl) rfl rfl rfl rfl (fun K hK => ?_) (fun K hK => ?_)
        · go_simp
          (with_reducible refine (C44a.out _ HBc.out).mono ?_); rintro e w' ⟨rfl, hw⟩; replace hw := hw.symm; subst hw
          refine hK.out _ _ trivial (fun hHeld => ?_)
          clear hK K
          try simp only [Act.put, List.setIfInBounds_toArray, List.set_cons_zero, List.set_cons_succ]
          refine wpG_twoB (i := 12) (j := 23) (oi := ⟨some 47, _, _, _, _, _⟩) (oj := ⟨some 10, _, _, _, _, _⟩) (by kernel_rfl) rfl rfl rfl rfl (fun K hK => ?_) (fun K hK => ?_)
          · go_simp
            (with_reducible refine (C44b.out _ HBc.out).mono ?_); rintro e w' ⟨rfl, hw⟩; replace hw := hw.symm; subst hw
            refine hK.out _ _ trivial (fun hHeld => ?_)
            clear hK K
            try simp only [Act.put, List.setIfInBounds_toArray, List.set_cons_zero, List.set_cons_succ]
            refine wpG_twoB (i := 21) (j := 23) (oi := ⟨some 56, _, _, _, _, _⟩) (oj := ⟨some 10, _, _, _, _, _⟩) (by kernel_rfl) rfl rfl rfl rfl (fun K hK => ?_) (fun K hK => ?_)
            · have hcur := fun (W9 : World) (hg : World.grownBy (wo.drew) W9 (Value.slice none 0 0).ownBlock) => (show Below (wo.drew).heap.size (wo.drew) W9 from below_own (Below.refl _ _) (Nat.le_refl _) (World.ownsRow_nil _ _ 5 1) hg)
              refine step_app_own (base := wo.heap.size) (n := 0) (m := s) (xs := []) (news := ys.map Go.Proofs.Ytgbkoegmoelheaa.u8) rfl (.const (.slice none 0 0)) (.tmp 55) 23 rfl el22 rfl (World.ownsRow_nil _ _ 5 1) rfl ((HR3.out _ HBc.out).h) (u8_one _) (by have := HX1.out; unfold maxLen; omega) (by have := HX1.out; omega) HBc.out.size ?_
              rintro v10 w10 hown hg -
              rw [Nat.zero_add, List.nil_append] at hown
              obtain ⟨A6, c6, rfl, -⟩ := own_form hown
              have hbq := hcur _ hg
              have hbn := hbq
              have HBp := HBc
              have HBc := Lib.hid (HBp.out.trans (hbn.mono HBp.out.size))
              (try have HKc := Lib.hid (HKc.out.below hbn HKc.out.lt))
              (try have HDc := Lib.hid (own_keeps HDc.out fun g hg => hbn.block g (own_lt HDc.out g hg)))
              clear hbn
              have HDc := Lib.hid hown
              clear hown hg hbq hcur
              refine hK.out _ _ trivial (fun hHeld => ?_)
              clear hK K
              try simp only [Act.put, List.setIfInBounds_toArray, List.set_cons_zero, List.set_cons_succ]
              refine wpG_takeB (i := 22) (oi := ⟨some 57, _, _, _, _, _⟩) (v := .agg #[.int .i64 Tm, .int .i64 Fl, .slice A6 s c6]) rfl (by kernel_rfl) (by kernel_rfl) (by kernel_rfl) (by decide) (fun _ _ _ h => h) h01 rfl hHeld (Or.inl ⟨by rfl, ?_⟩) ?_
              · (intro W9 hSw; have g1 := HS1.out; have g2 := HS2.out; have g3 := HS3.out; have y0 := HAT.out; go_simp; (try (first | with_reducible rfl | rfl | (exact HS1.out _) | (exact HS2.out _) | (exact HS3.out _) | (rw [HW6.out]; done) | (rw [HW8.out]; done) | (rw [HW10.out]; done) | (rw [HW11.out]; done) | (simp; done))))
              try simp only [Act.put, List.setIfInBounds_toArray, List.set_cons_zero, List.set_cons_succ]
              refine wpG_oneB (i := 23) (o := ⟨some 10, _, _, _, _, _⟩) (by kernel_rfl) rfl rfl (fun K hK => ?_)
              go_simp
              have hbn : Below w10.heap.size w10 (w10.alloc (.cells #[.int .i64 0, .int .i64 0, .slice none 0 0] 31)) := (Below.refl w10.heap.size w10).alloc (Nat.le_refl _) (.cells #[.int .i64 0, .int .i64 0, .slice none 0 0] 31)
              have HKc : Hid (Blk (w10.alloc (.cells #[.int .i64 0, .int .i64 0, .slice none 0 0] 31)) w10.heap.size 31 #[.int .i64 0, .int .i64 0, .slice none 0 0]) := Lib.hid (Blk.new w10 31 #[.int .i64 0, .int .i64 0, .slice none 0 0])
              have HGc := Lib.hid HBc.out.size
              (try have HDp := HDc)
              (try have HDc := Lib.hid (own_keeps HDc.out fun g hg => hbn.block g (own_lt HDc.out g hg)))
              have HBp := HBc
              have HBc := Lib.hid (HBp.out.trans (hbn.mono HBp.out.size))
              clear hbn
              refine hK.out _ _ trivial (fun hHeld => ?_)
              clear hK K
              try simp only [Act.put, List.setIfInBounds_toArray, List.set_cons_zero, List.set_cons_succ]
              refine wpG_oneB (i := 24) (o := ⟨none, _, _, _, _, _⟩) (by kernel_rfl) rfl rfl (fun K hK => ?_)
              have kq0 := HKc.out.cell 0
              have kq1 := HKc.out.cell 1
              have kq2 := HKc.out.cell 2
              simp at kq0 kq1 kq2
              have z0 := HKc.out.frozen 0
              have z1 := HKc.out.frozen 1
              have z2 := HKc.out.frozen 2
              go_simp
              clear kq0 kq1 kq2 z0 z1 z2
              have HF := Lib.hid (Reg6.of (Tm := Tm) (Fl := Fl) HBc.out HGc.out HKc.out HDc.out)
              refine hK.out _ _ trivial (fun hHeld => ?_)
              clear hK K
              try simp only [Act.put, List.setIfInBounds_toArray, List.set_cons_zero, List.set_cons_succ]
              refine wpG_done (by kernel_rfl) ?_ _
              go_wp2_with fail
              go_meet
              first | exact ⟨_, _, _, rfl, HF⟩ | exact ⟨_, _, _, rfl, Lib.hid (Reg6.of2 HBp.out HDp.out)⟩
            · go_simp
              have hbn : Below (wo.drew).heap.size (wo.drew) ((wo.alloc (.cells #[.int .i64 0, .int .i64 0, .slice none 0 0] 31)).drew) := (Below.refl (wo.drew).heap.size (wo.drew)).alloc (Nat.le_refl _) (.cells #[.int .i64 0, .int .i64 0, .slice none 0 0] 31)
              have HKc : Hid (Blk ((wo.alloc (.cells #[.int .i64 0, .int .i64 0, .slice none 0 0] 31)).drew) wo.heap.size 31 #[.int .i64 0, .int .i64 0, .slice none 0 0]) := Lib.hid (Blk.new (wo.drew) 31 #[.int .i64 0, .int .i64 0, .slice none 0 0])
              have HGc := Lib.hid HBc.out.size
              (try have HDp := HDc)
              (try have HDc := Lib.hid (own_keeps HDc.out fun g hg => hbn.block g (own_lt HDc.out g hg)))
              have HBp := HBc
              have HBc := Lib.hid (HBp.out.trans (hbn.mono HBp.out.size))
              clear hbn
              refine hK.out _ _ trivial (fun hHeld => ?_)
              clear hK K
              try simp only [Act.put, List.setIfInBounds_toArray, List.set_cons_zero, List.set_cons_succ]
              refine wpG_oneB (i := 21) (o := ⟨some 56, _, _, _, _, _⟩) (by kernel_rfl) rfl rfl (fun K hK => ?_)
              have hcur := fun (W9 : World) (hg : World.grownBy ((wo.alloc (.cells #[.int .i64 0, .int .i64 0, .slice none 0 0] 31)).drew) W9 (Value.slice none 0 0).ownBlock) => (show Below ((wo.alloc (.cells #[.int .i64 0, .int .i64 0, .slice none 0 0] 31)).drew).heap.size ((wo.alloc (.cells #[.int .i64 0, .int .i64 0, .slice none 0 0] 31)).drew) W9 from below_own (Below.refl _ _) (Nat.le_refl _) (World.ownsRow_nil _ _ 5 1) hg)
              refine step_app_own (base := wo.heap.size) (n := 0) (m := s) (xs := []) (news := ys.map Go.Proofs.Ytgbkoegmoelheaa.u8) rfl (.const (.slice none 0 0)) (.tmp 55) 23 rfl el22 rfl (World.ownsRow_nil _ _ 5 1) rfl ((HR3.out _ HBc.out).h) (u8_one _) (by have := HX1.out; unfold maxLen; omega) (by have := HX1.out; omega) HBc.out.size ?_
              rintro v10 w10 hown hg -
              rw [Nat.zero_add, List.nil_append] at hown
              obtain ⟨A6, c6, rfl, -⟩ := own_form hown
              have hbq := hcur _ hg
              have hbn := hbq
              have HBp := HBc
              have HBc := Lib.hid (HBp.out.trans (hbn.mono HBp.out.size))
              (try have HKc := Lib.hid (HKc.out.below hbn HKc.out.lt))
              (try have HDc := Lib.hid (own_keeps HDc.out fun g hg => hbn.block g (own_lt HDc.out g hg)))
              clear hbn
              have HDc := Lib.hid hown
              clear hown hg hbq hcur
              refine hK.out _ _ trivial (fun hHeld => ?_)
              clear hK K
              try simp only [Act.put, List.setIfInBounds_toArray, List.set_cons_zero, List.set_cons_succ]
              refine wpG_takeB (i := 22) (oi := ⟨some 57, _, _, _, _, _⟩) (v := .agg #[.int .i64 Tm, .int .i64 Fl, .slice A6 s c6]) rfl (by kernel_rfl) (by kernel_rfl) (by kernel_rfl) (by decide) (fun _ _ _ h => h) h01 rfl hHeld (Or.inl ⟨by rfl, ?_⟩) ?_
              · (intro W9 hSw; have g1 := HS1.out; have g2 := HS2.out; have g3 := HS3.out; have y0 := HAT.out; go_simp; (try (first | with_reducible rfl | rfl | (exact HS1.out _) | (exact HS2.out _) | (exact HS3.out _) | (rw [HW6.out]; done) | (rw [HW8.out]; done) | (rw [HW10.out]; done) | (rw [HW11.out]; done) | (simp; done))))
              try simp only [Act.put, List.setIfInBounds_toArray, List.set_cons_zero, List.set_cons_succ]
              refine wpG_oneB (i := 24) (o := ⟨none, _, _, _, _, _⟩) (by kernel_rfl) rfl rfl (fun K hK => ?_)
              have kq0 := HKc.out.cell 0
              have kq1 := HKc.out.cell 1
              have kq2 := HKc.out.cell 2
              simp at kq0 kq1 kq2
              have z0 := HKc.out.frozen 0
              have z1 := HKc.out.frozen 1
              have z2 := HKc.out.frozen 2
              go_simp
              clear kq0 kq1 kq2 z0 z1 z2
              have HF := Lib.hid (Reg6.of (Tm := Tm) (Fl := Fl) HBc.out HGc.out HKc.out HDc.out)
              refine hK.out _ _ trivial (fun hHeld => ?_)
              clear hK K
              try simp only [Act.put, List.setIfInBounds_toArray, List.set_cons_zero, List.set_cons_succ]
              refine wpG_done (by kernel_rfl) ?_ _
              go_wp2_with fail
              go_meet
              first | exact ⟨_, _, _, rfl, HF⟩ | exact ⟨_, _, _, rfl, Lib.hid (Reg6.of2 HBp.out HDp.out)⟩
          · go_simp
            have hbn : Below (wo.drew).heap.size (wo.drew) ((wo.alloc (.cells #[.int .i64 0, .int .i64 0, .slice none 0 0] 31)).drew) := (Below.refl (wo.drew).heap.size (wo.drew)).alloc (Nat.le_refl _) (.cells #[.int .i64 0, .int .i64 0, .slice none 0 0] 31)
            have HKc : Hid (Blk ((wo.alloc (.cells #[.int .i64 0, .int .i64 0, .slice none 0 0] 31)).drew) wo.heap.size 31 #[.int .i64 0, .int .i64 0, .slice none 0 0]) := Lib.hid (Blk.new (wo.drew) 31 #[.int .i64 0, .int .i64 0, .slice none 0 0])
            have HGc := Lib.hid HBc.out.size
            (try have HDp := HDc)
            (try have HDc := Lib.hid (own_keeps HDc.out fun g hg => hbn.block g (own_lt HDc.out g hg)))
            have HBp := HBc
            have HBc := Lib.hid (HBp.out.trans (hbn.mono HBp.out.size))
            clear hbn
            refine hK.out _ _ trivial (fun hHeld => ?_)
            clear hK K
            try simp only [Act.put, List.setIfInBounds_toArray, List.set_cons_zero, List.set_cons_succ]
            refine wpG_oneB (i := 12) (o := ⟨some 47, _, _, _, _, _⟩) (by kernel_rfl) rfl rfl (fun K hK => ?_)
            go_simp
            (with_reducible refine (C44b.out _ HBc.out).mono ?_); rintro e w' ⟨rfl, hw⟩; replace hw := hw.symm; subst hw
            refine hK.out _ _ trivial (fun hHeld => ?_)
            clear hK K
            try simp only [Act.put, List.setIfInBounds_toArray, List.set_cons_zero, List.set_cons_succ]
            refine wpG_oneB (i := 21) (o := ⟨some 56, _, _, _, _, _⟩) (by kernel_rfl) rfl rfl (fun K hK => ?_)
            have hcur := fun (W9 : World) (hg : World.grownBy ((wo.alloc (.cells #[.int .i64 0, .int .i64 0, .slice none 0 0] 31)).drew) W9 (Value.slice none 0 0).ownBlock) => (show Below ((wo.alloc (.cells #[.int .i64 0, .int .i64 0, .slice none 0 0] 31)).drew).heap.size ((wo.alloc (.cells #[.int .i64 0, .int .i64 0, .slice none 0 0] 31)).drew) W9 from below_own (Below.refl _ _) (Nat.le_refl _) (World.ownsRow_nil _ _ 5 1) hg)
            refine step_app_own (base := wo.heap.size) (n := 0) (m := s) (xs := []) (news := ys.map Go.Proofs.Ytgbkoegmoelheaa.u8) rfl (.const (.slice none 0 0)) (.tmp 55) 23 rfl el22 rfl (World.ownsRow_nil _ _ 5 1) rfl ((HR3.out _ HBc.out).h) (u8_one _) (by have := HX1.out; unfold maxLen; omega) (by have := HX1.out; omega) HBc.out.size ?_
            rintro v10 w10 hown hg -
            rw [Nat.zero_add, List.nil_append] at hown
            obtain ⟨A6, c6, rfl, -⟩ := own_form hown
            have hbq := hcur _ hg
            have hbn := hbq
            have HBp := HBc
            have HBc := Lib.hid (HBp.out.trans (hbn.mono HBp.out.size))
            (try have HKc := Lib.hid (HKc.out.below hbn HKc.out.lt))
            (try have HDc := Lib.hid (own_keeps HDc.out fun g hg => hbn.block g (own_lt HDc.out g hg)))
            clear hbn
            have HDc := Lib.hid hown
            clear hown hg hbq hcur
            refine hK.out _ _ trivial (fun hHeld => ?_)
            clear hK K
            try simp only [Act.put, List.setIfInBounds_toArray, List.set_cons_zero, List.set_cons_succ]
            refine wpG_takeB (i := 22) (oi := ⟨some 57, _, _, _, _, _⟩) (v := .agg #[.int .i64 Tm, .int .i64 Fl, .slice A6 s c6]) rfl (by kernel_rfl) (by kernel_rfl) (by kernel_rfl) (by decide) (fun _ _ _ h => h) h01 rfl hHeld (Or.inl ⟨by rfl, ?_⟩) ?_
            · (intro W9 hSw; have g1 := HS1.out; have g2 := HS2.out; have g3 := HS3.out; have y0 := HAT.out; go_simp; (try (first | with_reducible rfl | rfl | (exact HS1.out _) | (exact HS2.out _) | (exact HS3.out _) | (rw [HW6.out]; done) | (rw [HW8.out]; done) | (rw [HW10.out]; done) | (rw [HW11.out]; done) | (simp; done))))
            try simp only [Act.put, List.setIfInBounds_toArray, List.set_cons_zero, List.set_cons_succ]
            refine wpG_oneB (i := 24) (o := ⟨none, _, _, _, _, _⟩) (by kernel_rfl) rfl rfl (fun K hK => ?_)
            have kq0 := HKc.out.cell 0
            have kq1 := HKc.out.cell 1
            have kq2 := HKc.out.cell 2
            simp at kq0 kq1 kq2
            have z0 := HKc.out.frozen 0
            have z1 := HKc.out.frozen 1
            have z2 := HKc.out.frozen 2
            go_simp
            clear kq0 kq1 kq2 z0 z1 z2
            have HF := Lib.hid (Reg6.of (Tm := Tm) (Fl := Fl) HBc.out HGc.out HKc.out HDc.out)
            refine hK.out _ _ trivial (fun hHeld => ?_)
            clear hK K
            try simp only [Act.put, List.setIfInBounds_toArray, List.set_cons_zero, List.set_cons_succ]
            refine wpG_done (by kernel_rfl) ?_ _
            go_wp2_with fail
            go_meet
            first | exact ⟨_, _, _, rfl, HF⟩ | exact ⟨_, _, _, rfl, Lib.hid (Reg6.of2 HBp.out HDp.out)⟩
        · go_simp
          have hbn : Below (wo.drew).heap.size (wo.drew) ((wo.alloc (.cells #[.int .i64 0, .int .i64 0, .slice none 0 0] 31)).drew) := (Below.refl (wo.drew).heap.size (wo.drew)).alloc (Nat.le_refl _) (.cells #[.int .i64 0, .int .i64 0, .slice none 0 0] 31)
          have HKc : Hid (Blk ((wo.alloc (.cells #[.int .i64 0, .int .i64 0, .slice none 0 0] 31)).drew) wo.heap.size 31 #[.int .i64 0, .int .i64 0, .slice none 0 0]) := Lib.hid (Blk.new (wo.drew) 31 #[.int .i64 0, .int .i64 0, .slice none 0 0])
          have HGc := Lib.hid HBc.out.size
          (try have HDp := HDc)
          (try have HDc := Lib.hid (own_keeps HDc.out fun g hg => hbn.block g (own_lt HDc.out g hg)))
          have HBp := HBc
          have HBc := Lib.hid (HBp.out.trans (hbn.mono HBp.out.size))
          clear hbn
          refine hK.out _ _ trivial (fun hHeld => ?_)
          clear hK K
          try simp only [Act.put, List.setIfInBounds_toArray, List.set_cons_zero, List.set_cons_succ]
          refine wpG_oneB (i := 5) (o := ⟨some 40, _, _, _, _, _⟩) (by kernel_rfl) rfl rfl (fun K hK => ?_)
          go_simp
          (with_reducible refine (C44a.out _ HBc.out).mono ?_); rintro e w' ⟨rfl, hw⟩; replace hw := hw.symm; subst hw
          refine hK.out _ _ trivial (fun hHeld => ?_)
          clear hK K
          try simp only [Act.put, List.setIfInBounds_toArray, List.set_cons_zero, List.set_cons_succ]
          refine wpG_oneB (i := 12) (o := ⟨some 47, _, _, _, _, _⟩) (by kernel_rfl) rfl rfl (fun K hK => ?_)
          go_simp
          (with_reducible refine (C44b.out _ HBc.out).mono ?_); rintro e w' ⟨rfl, hw⟩; replace hw := hw.symm; subst hw
          refine hK.out _ _ trivial (fun hHeld => ?_)
          clear hK K
          try simp only [Act.put, List.setIfInBounds_toArray, List.set_cons_zero, List.set_cons_succ]
          refine wpG_oneB (i := 21) (o := ⟨some 56, _, _, _, _, _⟩) (by kernel_rfl) rfl rfl (fun K hK => ?_)
          have hcur := fun (W9 : World) (hg : World.grownBy ((wo.alloc (.cells #[.int .i64 0, .int .i64 0, .slice none 0 0] 31)).drew) W9 (Value.slice none 0 0).ownBlock) => (show Below ((wo.alloc (.cells #[.int .i64 0, .int .i64 0, .slice none 0 0] 31)).drew).heap.size ((wo.alloc (.cells #[.int .i64 0, .int .i64 0, .slice none 0 0] 31)).drew) W9 from below_own (Below.refl _ _) (Nat.le_refl _) (World.ownsRow_nil _ _ 5 1) hg)
          refine step_app_own (base := wo.heap.size) (n := 0) (m := s) (xs := []) (news := ys.map Go.Proofs.Ytgbkoegmoelheaa.u8) rfl (.const (.slice none 0 0)) (.tmp 55) 23 rfl el22 rfl (World.ownsRow_nil _ _ 5 1) rfl ((HR3.out _ HBc.out).h) (u8_one _) (by have := HX1.out; unfold maxLen; omega) (by have := HX1.out; omega) HBc.out.size ?_
          rintro v10 w10 hown hg -
          rw [Nat.zero_add, List.nil_append] at hown
          obtain ⟨A6, c6, rfl, -⟩ := own_form hown
          have hbq := hcur _ hg
          have hbn := hbq
          have HBp := HBc
          have HBc := Lib.hid (HBp.out.trans (hbn.mono HBp.out.size))
          (try have HKc := Lib.hid (HKc.out.below hbn HKc.out.lt))
          (try have HDc := Lib.hid (own_keeps HDc.out fun g hg => hbn.block g (own_lt HDc.out g hg)))
          clear hbn
          have HDc := Lib.hid hown
          clear hown hg hbq hcur
          refine hK.out _ _ trivial (fun hHeld => ?_)
          clear hK K
          try simp only [Act.put, List.setIfInBounds_toArray, List.set_cons_zero, List.set_cons_succ]
          refine wpG_takeB (i := 22) (oi := ⟨some 57, _, _, _, _, _⟩) (v := .agg #[.int .i64 Tm, .int .i64 Fl, .slice A6 s c6]) rfl (by kernel_rfl) (by kernel_rfl) (by kernel_rfl) (by decide) (fun _ _ _ h => h) h01 rfl hHeld (Or.inl ⟨by rfl, ?_⟩) ?_
          · (intro W9 hSw; have g1 := HS1.out; have g2 := HS2.out; have g3 := HS3.out; have y0 := HAT.out; go_simp; (try (first | with_reducible rfl | rfl | (exact HS1.out _) | (exact HS2.out _) | (exact HS3.out _) | (rw [HW6.out]; done) | (rw [HW8.out]; done) | (rw [HW10.out]; done) | (rw [HW11.out]; done) | (simp; done))))
          try simp only [Act.put, List.setIfInBounds_toArray, List.set_cons_zero, List.set_cons_succ]
          refine wpG_oneB (i := 24) (o := ⟨none, _, _, _, _, _⟩) (by kernel_rfl) rfl rfl (fun K hK => ?_)
          have kq0 := HKc.out.cell 0
          have kq1 := HKc.out.cell 1
          have kq2 := HKc.out.cell 2
          simp at kq0 kq1 kq2
          have z0 := HKc.out.frozen 0
          have z1 := HKc.out.frozen 1
          have z2 := HKc.out.frozen 2
          go_simp
          clear kq0 kq1 kq2 z0 z1 z2
          have HF := Lib.hid (Reg6.of (Tm := Tm) (Fl := Fl) HBc.out HGc.out HKc.out HDc.out)
          refine hK.out _ _ trivial (fun hHeld => ?_)
          clear hK K
          try simp only [Act.put, List.setIfInBounds_toArray, List.set_cons_zero, List.set_cons_succ]
          refine wpG_done (by kernel_rfl) ?_ _
          go_wp2_with fail
          go_meet
          first | exact ⟨_, _, _, rfl, HF⟩ | exact ⟨_, _, _, rfl, Lib.hid (Reg6.of2 HBp.out HDp.out)⟩
      case rest =>
        obtain ⟨g, A6, c6, rfl, HG⟩ := hcut
        have HPO3 := Lib.hid (HPO.out.below HG.out.below)
        have HB3 := Lib.hid (HI.out.below.trans (HG.out.below.mono HI.out.below.size))
        obtain ⟨f0, f1, f2⟩ : Cel3 g Tm Fl (.slice A6 s c6) wc := ⟨HG.out.blk.cell 0, HG.out.blk.cell 1, HG.out.blk.cell 2⟩
        have HDL := Lib.hid (show ds.length ≤ 64 by have := HAL.out.2; have := HH.out.2.1; have := HH.out.2.2.2.2.2.1; omega)
        have C13 := rvalid_any Tm Fl A6 s c6 ys wc HYL.out (by have := HX1.out; omega)
        cases hval : validP ⟨Tm, Fl, ys⟩ with
        | false =>
          rw [hval] at C13
          have C13 := Lib.hid C13
          have HF := Lib.hid (show lk = none by rw [HPE2.out, hval]; rfl)
          clear hval
          go_wp2_with (go_at_call 13; (with_reducible refine C13.out.mono ?_); rintro e w10 ⟨rfl, hb⟩; have HB10 := Lib.hid (HB3.out.trans (hb.mono HB3.out.size)); clear hb)
          go_ret2
          exact RPackR.none HF.out HB10.out
        | true =>
          rw [hval] at C13
          have C13 := Lib.hid C13
          have HF := Lib.hid (show lk = (packs (l.drop (at_ + (10 + s))) r).map (pks (ds ++ [⟨Tm, Fl, A6, s, c6, ys⟩]) ++ ·) by
            rw [HPE2.out, hval, if_pos rfl, List.drop_drop]
            cases packs (l.drop (at_ + (10 + s))) r with
            | none => rfl
            | some q => simp [pks, Pd.pk])
          have HS4 := Lib.hid (show s ≤ 4096 by have := (validP_iff.1 hval).2.2.2.2; rw [HYL.out] at this; exact this)
          clear hval
          have hi02 := HH.out.1
          have hlt2 := HH.out.2.1
          have hX02 := HH.out.2.2.2.1
          have hX12 := HH.out.2.2.2.2.1
          have hk02 := HH.out.2.2.2.2.2.1
          have hA02 := HH.out.2.2.2.2.2.2.1
          have hA12 := HH.out.2.2.2.2.2.2.2
          obtain ⟨Av, cv, rfl⟩ := HPO3.out.form
          go_wp2_with (first | (go_at_call 13; (with_reducible refine C13.out.mono ?_); rintro e w10 ⟨rfl, hb⟩; have HB10 := Lib.hid (HB3.out.trans (hb.mono HB3.out.size)); have HPO10 := Lib.hid (HPO3.out.below hb); have HD10 := Lib.hid (own_keeps HG.out.own fun k hk => hb.block k (own_lt HG.out.own k hk)); have HK10 := Lib.hid (HG.out.blk.below hb HG.out.blk.lt); clear hb; clear f0 f1 f2; obtain ⟨f0, f1, f2⟩ : Cel3 g Tm Fl (.slice A6 s c6) w10 := ⟨HK10.out.cell 0, HK10.out.cell 1, HK10.out.cell 2⟩) | (at_builtin; go_must (refine wpList_app_sz (base := w.heap.size) (n := ds.length) (m := 1) (xs := ds.flatMap Pd.cells) (news := [.int .i64 Tm, .int .i64 Fl, .slice A6 s c6]) rfl (.tmp 61) (.tmp 63) 22 rfl elP rfl (own_alloc HPO10.out.own) rfl (HoldsS.new _ 3 1 [.int .i64 Tm, .int .i64 Fl, .slice A6 s c6] 31 rfl) (by simp [Value.oneCell']) (by have := HDL.out; unfold maxLen; omega) (by have := HDL.out; omega) (by have := HB10.out.size; simp; omega) (by simp) ?_; intro v9 w9 hown hg; have HO9 := Lib.hid hown; have HG9 := Lib.hid (show (w10.alloc (.cells #[.int .i64 Tm, .int .i64 Fl, .slice A6 s c6] 31)).grownBy w9 (Value.slice Av ds.length cv).ownBlock from hg); clear hown hg)))
          have HB9 := Lib.hid (below_own (HB10.out.alloc HB10.out.size (.cells #[.int .i64 Tm, .int .i64 Fl, .slice A6 s c6] 31)) (by have := HB10.out.size; simp; omega) (own_alloc HPO10.out.own) HG9.out)
          have HPO9 := Lib.hid (PO.push (p := ⟨Tm, Fl, A6, s, c6, ys⟩) HPO10.out (own_base HD10.out HI.out.below.size) (show -9223372036854775808 ≤ Tm ∧ Tm < 9223372036854775808 ∧ -9223372036854775808 ≤ Fl ∧ Fl < 9223372036854775808 by have := HTM.out; have := HFL.out; omega) HO9.out HG9.out)
          go_roundw
          case rel => exact ⟨i + 1, at_ + (10 + s), v9, ds ++ [⟨Tm, Fl, A6, s, c6, ys⟩], by omega, by go_num, congrArg (Value.int .i64) (by have := HA.out; have := HX.out; omega), rfl, Lib.hid ⟨by have := HAE.out; omega, by rw [List.length_append, HAL.out.2]; rfl⟩, Lib.hid ⟨HB9.out, HPO9.out, by rw [HF.out]; have := HR.out; rw [show k - (i + 1) = r by omega], fun p hp => by
            rcases List.mem_append.1 hp with h1 | h1
            · exact HI.out.dn p h1
            · rw [List.mem_singleton.1 h1]; exact HS4.out⟩⟩
          case measure => simp [intOf]; omega
    · have hki : k - i = 0 := by omega
      have HPE : Hid (lk = if n = at_ then some (pks ds) else none) := Lib.hid (by
        have := HI.out.eq
        rw [hki, packs_zero, List.length_drop, HLN.out] at this
        rw [this]
        have hle := HAL.out.1
        by_cases h0 : n = at_
        · rw [if_pos h0, if_pos (by omega)]; simp
        · rw [if_neg h0, if_neg (by omega)]; rfl)
      have HDL := Lib.hid (show ds.length ≤ 64 by have := HAL.out.2; omega)
      obtain ⟨Av, cv, rfl⟩ := HI.out.po.form
      clear hki
      by_cases h0 : n = at_
      · have q0 : (AT == (n : Int)) = true := by simp; omega
        have C14 := rfits_any Av ds.length cv ds wo HI.out.po.pl (by have := HDL.out; omega) (fun p hp => by have := HI.out.dn p hp; omega)
        obtain ⟨F, hF⟩ : ∃ F, fitsP (pks ds) = F := ⟨_, rfl⟩
        rw [hF] at C14
        have C14 := Lib.hid C14
        have HFF := Lib.hid hF
        have HLK := Lib.hid (show lk = some (pks ds) by rw [HPE.out, if_pos h0])
        clear h0 hF hAT
        cases F with
        | true =>
          go_wp2_with (go_at_call 14; (with_reducible refine C14.out.mono ?_); rintro e w9 ⟨rfl, hb⟩; have HB9 := Lib.hid (HI.out.below.trans (hb.mono HI.out.below.size)); have HPO9 := Lib.hid (HI.out.po.below hb); clear hb)
          go_ret2
          exact ⟨HB9.out, _, true, ds, rfl, fun _ => ⟨HPO9.out, HLK.out, HFF.out⟩, fun h => by cases h⟩
        | false =>
          go_wp2_with (go_at_call 14; (with_reducible refine C14.out.mono ?_); rintro e w9 ⟨rfl, hb⟩; have HB9 := Lib.hid (HI.out.below.trans (hb.mono HI.out.below.size)); clear hb)
          go_ret2
          exact ⟨HB9.out, _, false, ds, rfl, fun h => (by cases h), fun _ q hq => by rw [HLK.out] at hq; cases hq; exact HFF.out⟩
      · have q0 : (AT == (n : Int)) = false := by simp; omega
        have HF := Lib.hid (show lk = none by rw [HPE.out, if_neg h0])
        clear h0 hAT
        go_wp2_with fail
        go_ret2
        exact ⟨HI.out.below, _, false, [], rfl, fun h => (by cases h), fun _ q hq => by rw [HF.out] at hq; cases hq⟩
end Go.Proofs.Ytgbkoegmoelheaa
