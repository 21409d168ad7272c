/- Same, gaps, few, short. -/
import Derived.Test.YtgbkoegmoelheaaCz
import Derived.Laws.StructEq
namespace Go.Proofs.Ytgbkoegmoelheaa
open Go.RowKit
set_option linter.unusedVariables false
set_option linter.unusedSimpArgs false

structure SmR (b1 o1 b2 o2 : Nat) (T F : Int) (D1 : Option Addr) (m1 k1 : Nat) (D2 : Option Addr) (m2 k2 : Nat) (l : List UInt8) (W : World) : Prop where
  h0 : W.cell? ⟨b1, o1, none⟩ = some (.int .i64 T)
  h1 : W.cell? ⟨b1, o1 + 1, none⟩ = some (.int .i64 F)
  h2 : W.cell? ⟨b1, o1 + 2, none⟩ = some (.slice D1 m1 k1)
  g0 : W.cell? ⟨b2, o2, none⟩ = some (.int .i64 T)
  g1 : W.cell? ⟨b2, o2 + 1, none⟩ = some (.int .i64 F)
  g2 : W.cell? ⟨b2, o2 + 2, none⟩ = some (.slice D2 m2 k2)
  r1 : RB W D1 m1 k1 l
  r2 : RB W D2 m2 k2 l
theorem SmR.below {b1 o1 b2 o2 : Nat} {T F : Int} {D1 : Option Addr} {m1 k1 : Nat} {D2 : Option Addr} {m2 k2 : Nat} {l : List UInt8} {W W' : World} (h : SmR b1 o1 b2 o2 T F D1 m1 k1 D2 m2 k2 l W) (hb : Below W.heap.size W W') : SmR b1 o1 b2 o2 T F D1 m1 k1 D2 m2 k2 l W' :=
  ⟨cell_below h.h0 hb, cell_below h.h1 hb, cell_below h.h2 hb, cell_below h.g0 hb, cell_below h.g1 hb, cell_below h.g2 hb, h.r1.below hb, h.r2.below hb⟩

set_option maxRecDepth 100000 in
set_option maxHeartbeats 4000000 in
theorem same_any (A1 A2 : Option Addr) (n1 c1 n2 c2 : Nat) (ds es : List Pd) (w : World) (h1 : PL w A1 n1 c1 ds) (h2 : PL w A2 n2 c2 es) (he : pks ds = pks es) (hn : n1 ≤ 1000000000) :
    Calls Try.prog 17 #[.slice A1 n1 c1, .slice A2 n2 c2] w fun e w' => e = .returned (.bool true) ∧ Below w.heap.size w w' := by
  obtain rfl : n1 = n2 := by rw [← h1.len, ← h2.len]; have := congrArg List.length he; simpa [pks] using this
  have H1 := Lib.hid h1
  have H2 := Lib.hid h2
  have HE := Lib.hid he
  have HL1 := Lib.hid h1.len
  have HL2 := Lib.hid h2.len
  have hnn : (n1 : Int) ≤ 1000000000 := by omega
  have q0 : ((n1 : Int) != n1) = false := by simp
  clear h1 h2 he hn
  go_enter Try.func17, Try.ntmps17
  go_wp2_with fail
  go_loopw [5] (fun ii wr => ∃ i : Nat, (i : Int) ≤ n1 ∧ ii = .int .i64 i ∧ Hid (Below w.heap.size w wr)) (fun ii _ => n1 - (intOf ii).toNat)
  case atStart => exact ⟨0, by omega, rfl, Lib.hid (Below.refl _ _)⟩
  case round =>
    obtain ⟨i, hi, rfl, HB⟩ := hrel
    have hi0 : (0 : Int) ≤ i := by omega
    obtain ⟨wo, rfl⟩ : ∃ wo : World, wo = wr := ⟨_, rfl⟩
    by_cases hlt : (i : Int) < n1
    · have hi1 : i < ds.length := by rw [HL1.out]; omega
      have hi2 : i < es.length := by rw [HL2.out]; omega
      obtain ⟨b1, o1, rfl, hc1⟩ := H1.out.at (by omega)
      obtain ⟨b2, o2, rfl, hc2⟩ := H2.out.at (by omega)
      have hf : (ds[i]).pk = (es[i]).pk := by
        have := congrArg (fun l => l[i]?) HE.out
        simpa [pks, List.getElem?_eq_getElem hi1, List.getElem?_eq_getElem hi2] using this
      have p1 := hc1 i hi1
      have p2 := hc2 i hi2
      have hr1 := (H1.out.r _ (List.getElem_mem hi1)).r
      have hr2 := (H2.out.r _ (List.getElem_mem hi2)).r
      generalize ds[i] = d1 at *
      generalize es[i] = d2 at *
      obtain ⟨T9, F9, D1, m1, k1, l9⟩ := d1
      obtain ⟨T2, F2, D2, m2, k2, l2⟩ := d2
      have e1 : T9 = T2 := congrArg Pk.t hf
      have e2 : F9 = F2 := congrArg Pk.f hf
      have e3 : l9 = l2 := congrArg Pk.d hf
      subst e1 e2 e3
      have hS : SmR b1 (o1 + i * 3) b2 (o2 + i * 3) T9 F9 D1 m1 k1 D2 m2 k2 l9 w := ⟨p1.h0, p1.h1, p1.h2, p2.h0, p2.h1, p2.h2, hr1, hr2⟩
      obtain ⟨s9, hs9⟩ : ∃ s9 : ByteArray, ⟨l9.toArray⟩ = s9 := ⟨_, rfl⟩
      have HST := Lib.hid hs9
      have HS6 := Lib.hid (hS.below (HB.out.trans (below_drew (Below.refl _ wo) |>.mono HB.out.size)))
      have HIX := Lib.hid (show (0 : Int) ≤ i ∧ (i : Int) < n1 from ⟨hi0, hlt⟩)
      clear p1 p2 hr1 hr2 hS hc1 hc2 hf hs9 hi1 hi2
      go_upto_region 6 with fail
      refine wp_region_G (S0 := (SmR b1 (o1 + i * 3) b2 (o2 + i * 3) T9 F9 D1 m1 k1 D2 m2 k2 l9)) (S1 := (SmR b1 (o1 + i * 3) b2 (o2 + i * 3) T9 F9 D1 m1 k1 D2 m2 k2 l9)) (c := 99) (by kernel_rfl) ?_
      have hHeld := HS6.out
      have h01 := (fun (W : World) (h : (SmR b1 (o1 + i * 3) b2 (o2 + i * 3) T9 F9 D1 m1 k1 D2 m2 k2 l9) W) => h)
      refine wpG_takeB (i := 0) (oi := ⟨some 17, _, _, _, _, _⟩) (v := .slice (some ⟨b1, o1, none⟩) n1 c1) rfl (by kernel_rfl) (by kernel_rfl) (by kernel_rfl) (by decide) (fun _ _ _ h => h) h01 rfl hHeld (Or.inl ⟨by rfl, ?_⟩) ?_
      · (intro W9 hSw; obtain ⟨v1, v2, v3, v4, v5, v6, v7, v8⟩ := hSw; have u1 := conv_RB v7; have u2 := conv_RB v8; rw [HST.out] at u1 u2; clear v7 v8; have w1 := HIX.out; go_simp; (try (first | with_reducible rfl | rfl | (simp; done))))
      try simp only [Act.put, List.setIfInBounds_toArray, List.set_cons_zero, List.set_cons_succ]
      refine wpG_takeB (i := 1) (oi := ⟨some 18, _, _, _, _, _⟩) (v := .int .i64 (i : Int)) rfl (by kernel_rfl) (by kernel_rfl) (by kernel_rfl) (by decide) (fun _ _ _ h => h) h01 rfl hHeld (Or.inl ⟨by rfl, ?_⟩) ?_
      · (intro W9 hSw; obtain ⟨v1, v2, v3, v4, v5, v6, v7, v8⟩ := hSw; have u1 := conv_RB v7; have u2 := conv_RB v8; rw [HST.out] at u1 u2; clear v7 v8; have w1 := HIX.out; go_simp; (try (first | with_reducible rfl | rfl | (simp; done))))
      try simp only [Act.put, List.setIfInBounds_toArray, List.set_cons_zero, List.set_cons_succ]
      refine wpG_takeB (i := 2) (oi := ⟨some 19, _, _, _, _, _⟩) (v := .pointer (some ⟨b1, o1 + i * 3, none⟩)) rfl (by kernel_rfl) (by kernel_rfl) (by kernel_rfl) (by decide) (fun _ _ _ h => h) h01 rfl hHeld (Or.inl ⟨by rfl, ?_⟩) ?_
      · (intro W9 hSw; obtain ⟨v1, v2, v3, v4, v5, v6, v7, v8⟩ := hSw; have u1 := conv_RB v7; have u2 := conv_RB v8; rw [HST.out] at u1 u2; clear v7 v8; have w1 := HIX.out; go_simp; (try (first | with_reducible rfl | rfl | (simp; done))))
      try simp only [Act.put, List.setIfInBounds_toArray, List.set_cons_zero, List.set_cons_succ]
      refine wpG_takeB (i := 3) (oi := ⟨some 20, _, _, _, _, _⟩) (v := .pointer (some ⟨b1, o1 + i * 3, none⟩)) rfl (by kernel_rfl) (by kernel_rfl) (by kernel_rfl) (by decide) (fun _ _ _ h => h) h01 rfl hHeld (Or.inl ⟨by rfl, ?_⟩) ?_
      · (intro W9 hSw; obtain ⟨v1, v2, v3, v4, v5, v6, v7, v8⟩ := hSw; have u1 := conv_RB v7; have u2 := conv_RB v8; rw [HST.out] at u1 u2; clear v7 v8; have w1 := HIX.out; go_simp; (try (first | with_reducible rfl | rfl | (simp; done))))
      try simp only [Act.put, List.setIfInBounds_toArray, List.set_cons_zero, List.set_cons_succ]
      refine wpG_takeB (i := 4) (oi := ⟨some 21, _, _, _, _, _⟩) (v := .int .i64 T9) rfl (by kernel_rfl) (by kernel_rfl) (by kernel_rfl) (by decide) (fun _ _ _ h => h) h01 rfl hHeld (Or.inl ⟨by rfl, ?_⟩) ?_
      · (intro W9 hSw; obtain ⟨v1, v2, v3, v4, v5, v6, v7, v8⟩ := hSw; have u1 := conv_RB v7; have u2 := conv_RB v8; rw [HST.out] at u1 u2; clear v7 v8; have w1 := HIX.out; go_simp; (try (first | with_reducible rfl | rfl | (simp; done))))
      try simp only [Act.put, List.setIfInBounds_toArray, List.set_cons_zero, List.set_cons_succ]
      refine wpG_takeB (i := 5) (oi := ⟨some 22, _, _, _, _, _⟩) (v := .slice (some ⟨b2, o2, none⟩) n1 c2) rfl (by kernel_rfl) (by kernel_rfl) (by kernel_rfl) (by decide) (fun _ _ _ h => h) h01 rfl hHeld (Or.inl ⟨by rfl, ?_⟩) ?_
      · (intro W9 hSw; obtain ⟨v1, v2, v3, v4, v5, v6, v7, v8⟩ := hSw; have u1 := conv_RB v7; have u2 := conv_RB v8; rw [HST.out] at u1 u2; clear v7 v8; have w1 := HIX.out; go_simp; (try (first | with_reducible rfl | rfl | (simp; done))))
      try simp only [Act.put, List.setIfInBounds_toArray, List.set_cons_zero, List.set_cons_succ]
      refine wpG_takeB (i := 6) (oi := ⟨some 23, _, _, _, _, _⟩) (v := .int .i64 (i : Int)) rfl (by kernel_rfl) (by kernel_rfl) (by kernel_rfl) (by decide) (fun _ _ _ h => h) h01 rfl hHeld (Or.inl ⟨by rfl, ?_⟩) ?_
      · (intro W9 hSw; obtain ⟨v1, v2, v3, v4, v5, v6, v7, v8⟩ := hSw; have u1 := conv_RB v7; have u2 := conv_RB v8; rw [HST.out] at u1 u2; clear v7 v8; have w1 := HIX.out; go_simp; (try (first | with_reducible rfl | rfl | (simp; done))))
      try simp only [Act.put, List.setIfInBounds_toArray, List.set_cons_zero, List.set_cons_succ]
      refine wpG_takeB (i := 7) (oi := ⟨some 24, _, _, _, _, _⟩) (v := .pointer (some ⟨b2, o2 + i * 3, none⟩)) rfl (by kernel_rfl) (by kernel_rfl) (by kernel_rfl) (by decide) (fun _ _ _ h => h) h01 rfl hHeld (Or.inl ⟨by rfl, ?_⟩) ?_
      · (intro W9 hSw; obtain ⟨v1, v2, v3, v4, v5, v6, v7, v8⟩ := hSw; have u1 := conv_RB v7; have u2 := conv_RB v8; rw [HST.out] at u1 u2; clear v7 v8; have w1 := HIX.out; go_simp; (try (first | with_reducible rfl | rfl | (simp; done))))
      try simp only [Act.put, List.setIfInBounds_toArray, List.set_cons_zero, List.set_cons_succ]
      refine wpG_takeB (i := 8) (oi := ⟨some 25, _, _, _, _, _⟩) (v := .pointer (some ⟨b2, o2 + i * 3, none⟩)) rfl (by kernel_rfl) (by kernel_rfl) (by kernel_rfl) (by decide) (fun _ _ _ h => h) h01 rfl hHeld (Or.inl ⟨by rfl, ?_⟩) ?_
      · (intro W9 hSw; obtain ⟨v1, v2, v3, v4, v5, v6, v7, v8⟩ := hSw; have u1 := conv_RB v7; have u2 := conv_RB v8; rw [HST.out] at u1 u2; clear v7 v8; have w1 := HIX.out; go_simp; (try (first | with_reducible rfl | rfl | (simp; done))))
      try simp only [Act.put, List.setIfInBounds_toArray, List.set_cons_zero, List.set_cons_succ]
      refine wpG_takeB (i := 9) (oi := ⟨some 26, _, _, _, _, _⟩) (v := .int .i64 T9) rfl (by kernel_rfl) (by kernel_rfl) (by kernel_rfl) (by decide) (fun _ _ _ h => h) h01 rfl hHeld (Or.inl ⟨by rfl, ?_⟩) ?_
      · (intro W9 hSw; obtain ⟨v1, v2, v3, v4, v5, v6, v7, v8⟩ := hSw; have u1 := conv_RB v7; have u2 := conv_RB v8; rw [HST.out] at u1 u2; clear v7 v8; have w1 := HIX.out; go_simp; (try (first | with_reducible rfl | rfl | (simp; done))))
      try simp only [Act.put, List.setIfInBounds_toArray, List.set_cons_zero, List.set_cons_succ]
      refine wpG_takeB (i := 10) (oi := ⟨some 27, _, _, _, _, _⟩) (v := .bool false) rfl (by kernel_rfl) (by kernel_rfl) (by kernel_rfl) (by decide) (fun _ _ _ h => h) h01 rfl hHeld (Or.inl ⟨by rfl, ?_⟩) ?_
      · (intro W9 hSw; obtain ⟨v1, v2, v3, v4, v5, v6, v7, v8⟩ := hSw; have u1 := conv_RB v7; have u2 := conv_RB v8; rw [HST.out] at u1 u2; clear v7 v8; have w1 := HIX.out; go_simp; (try (first | with_reducible rfl | rfl | (simp; done))))
      try simp only [Act.put, List.setIfInBounds_toArray, List.set_cons_zero, List.set_cons_succ]
      refine wpG_takeB (i := 11) (oi := ⟨some 28, _, _, _, _, _⟩) (v := .bool false) rfl (by kernel_rfl) (by kernel_rfl) (by kernel_rfl) (by decide) (fun _ _ _ h => h) h01 rfl hHeld (Or.inl ⟨by rfl, ?_⟩) ?_
      · (intro W9 hSw; obtain ⟨v1, v2, v3, v4, v5, v6, v7, v8⟩ := hSw; have u1 := conv_RB v7; have u2 := conv_RB v8; rw [HST.out] at u1 u2; clear v7 v8; have w1 := HIX.out; go_simp; (try (first | with_reducible rfl | rfl | (simp; done))))
      try simp only [Act.put, List.setIfInBounds_toArray, List.set_cons_zero, List.set_cons_succ]
      refine wpG_takeB (i := 12) (oi := ⟨some 29, _, _, _, _, _⟩) (v := .slice (some ⟨b1, o1, none⟩) n1 c1) rfl (by kernel_rfl) (by kernel_rfl) (by kernel_rfl) (by decide) (fun _ _ _ h => h) h01 rfl hHeld (Or.inl ⟨by rfl, ?_⟩) ?_
      · (intro W9 hSw; obtain ⟨v1, v2, v3, v4, v5, v6, v7, v8⟩ := hSw; have u1 := conv_RB v7; have u2 := conv_RB v8; rw [HST.out] at u1 u2; clear v7 v8; have w1 := HIX.out; go_simp; (try (first | with_reducible rfl | rfl | (simp; done))))
      try simp only [Act.put, List.setIfInBounds_toArray, List.set_cons_zero, List.set_cons_succ]
      refine wpG_takeB (i := 13) (oi := ⟨some 30, _, _, _, _, _⟩) (v := .int .i64 (i : Int)) rfl (by kernel_rfl) (by kernel_rfl) (by kernel_rfl) (by decide) (fun _ _ _ h => h) h01 rfl hHeld (Or.inl ⟨by rfl, ?_⟩) ?_
      · (intro W9 hSw; obtain ⟨v1, v2, v3, v4, v5, v6, v7, v8⟩ := hSw; have u1 := conv_RB v7; have u2 := conv_RB v8; rw [HST.out] at u1 u2; clear v7 v8; have w1 := HIX.out; go_simp; (try (first | with_reducible rfl | rfl | (simp; done))))
      try simp only [Act.put, List.setIfInBounds_toArray, List.set_cons_zero, List.set_cons_succ]
      refine wpG_takeB (i := 14) (oi := ⟨some 31, _, _, _, _, _⟩) (v := .pointer (some ⟨b1, o1 + i * 3, none⟩)) rfl (by kernel_rfl) (by kernel_rfl) (by kernel_rfl) (by decide) (fun _ _ _ h => h) h01 rfl hHeld (Or.inl ⟨by rfl, ?_⟩) ?_
      · (intro W9 hSw; obtain ⟨v1, v2, v3, v4, v5, v6, v7, v8⟩ := hSw; have u1 := conv_RB v7; have u2 := conv_RB v8; rw [HST.out] at u1 u2; clear v7 v8; have w1 := HIX.out; go_simp; (try (first | with_reducible rfl | rfl | (simp; done))))
      try simp only [Act.put, List.setIfInBounds_toArray, List.set_cons_zero, List.set_cons_succ]
      refine wpG_takeB (i := 15) (oi := ⟨some 32, _, _, _, _, _⟩) (v := .pointer (some ⟨b1, o1 + i * 3 + 1, none⟩)) rfl (by kernel_rfl) (by kernel_rfl) (by kernel_rfl) (by decide) (fun _ _ _ h => h) h01 rfl hHeld (Or.inl ⟨by rfl, ?_⟩) ?_
      · (intro W9 hSw; obtain ⟨v1, v2, v3, v4, v5, v6, v7, v8⟩ := hSw; have u1 := conv_RB v7; have u2 := conv_RB v8; rw [HST.out] at u1 u2; clear v7 v8; have w1 := HIX.out; go_simp; (try (first | with_reducible rfl | rfl | (simp; done))))
      try simp only [Act.put, List.setIfInBounds_toArray, List.set_cons_zero, List.set_cons_succ]
      refine wpG_takeB (i := 16) (oi := ⟨some 33, _, _, _, _, _⟩) (v := .int .i64 F9) rfl (by kernel_rfl) (by kernel_rfl) (by kernel_rfl) (by decide) (fun _ _ _ h => h) h01 rfl hHeld (Or.inl ⟨by rfl, ?_⟩) ?_
      · (intro W9 hSw; obtain ⟨v1, v2, v3, v4, v5, v6, v7, v8⟩ := hSw; have u1 := conv_RB v7; have u2 := conv_RB v8; rw [HST.out] at u1 u2; clear v7 v8; have w1 := HIX.out; go_simp; (try (first | with_reducible rfl | rfl | (simp; done))))
      try simp only [Act.put, List.setIfInBounds_toArray, List.set_cons_zero, List.set_cons_succ]
      refine wpG_takeB (i := 17) (oi := ⟨some 34, _, _, _, _, _⟩) (v := .slice (some ⟨b2, o2, none⟩) n1 c2) rfl (by kernel_rfl) (by kernel_rfl) (by kernel_rfl) (by decide) (fun _ _ _ h => h) h01 rfl hHeld (Or.inl ⟨by rfl, ?_⟩) ?_
      · (intro W9 hSw; obtain ⟨v1, v2, v3, v4, v5, v6, v7, v8⟩ := hSw; have u1 := conv_RB v7; have u2 := conv_RB v8; rw [HST.out] at u1 u2; clear v7 v8; have w1 := HIX.out; go_simp; (try (first | with_reducible rfl | rfl | (simp; done))))
      try simp only [Act.put, List.setIfInBounds_toArray, List.set_cons_zero, List.set_cons_succ]
      refine wpG_takeB (i := 18) (oi := ⟨some 35, _, _, _, _, _⟩) (v := .int .i64 (i : Int)) rfl (by kernel_rfl) (by kernel_rfl) (by kernel_rfl) (by decide) (fun _ _ _ h => h) h01 rfl hHeld (Or.inl ⟨by rfl, ?_⟩) ?_
      · (intro W9 hSw; obtain ⟨v1, v2, v3, v4, v5, v6, v7, v8⟩ := hSw; have u1 := conv_RB v7; have u2 := conv_RB v8; rw [HST.out] at u1 u2; clear v7 v8; have w1 := HIX.out; go_simp; (try (first | with_reducible rfl | rfl | (simp; done))))
      try simp only [Act.put, List.setIfInBounds_toArray, List.set_cons_zero, List.set_cons_succ]
      refine wpG_takeB (i := 19) (oi := ⟨some 36, _, _, _, _, _⟩) (v := .pointer (some ⟨b2, o2 + i * 3, none⟩)) rfl (by kernel_rfl) (by kernel_rfl) (by kernel_rfl) (by decide) (fun _ _ _ h => h) h01 rfl hHeld (Or.inl ⟨by rfl, ?_⟩) ?_
      · (intro W9 hSw; obtain ⟨v1, v2, v3, v4, v5, v6, v7, v8⟩ := hSw; have u1 := conv_RB v7; have u2 := conv_RB v8; rw [HST.out] at u1 u2; clear v7 v8; have w1 := HIX.out; go_simp; (try (first | with_reducible rfl | rfl | (simp; done))))
      try simp only [Act.put, List.setIfInBounds_toArray, List.set_cons_zero, List.set_cons_succ]
      refine wpG_takeB (i := 20) (oi := ⟨some 37, _, _, _, _, _⟩) (v := .pointer (some ⟨b2, o2 + i * 3 + 1, none⟩)) rfl (by kernel_rfl) (by kernel_rfl) (by kernel_rfl) (by decide) (fun _ _ _ h => h) h01 rfl hHeld (Or.inl ⟨by rfl, ?_⟩) ?_
      · (intro W9 hSw; obtain ⟨v1, v2, v3, v4, v5, v6, v7, v8⟩ := hSw; have u1 := conv_RB v7; have u2 := conv_RB v8; rw [HST.out] at u1 u2; clear v7 v8; have w1 := HIX.out; go_simp; (try (first | with_reducible rfl | rfl | (simp; done))))
      try simp only [Act.put, List.setIfInBounds_toArray, List.set_cons_zero, List.set_cons_succ]
      refine wpG_takeB (i := 21) (oi := ⟨some 38, _, _, _, _, _⟩) (v := .int .i64 F9) rfl (by kernel_rfl) (by kernel_rfl) (by kernel_rfl) (by decide) (fun _ _ _ h => h) h01 rfl hHeld (Or.inl ⟨by rfl, ?_⟩) ?_
      · (intro W9 hSw; obtain ⟨v1, v2, v3, v4, v5, v6, v7, v8⟩ := hSw; have u1 := conv_RB v7; have u2 := conv_RB v8; rw [HST.out] at u1 u2; clear v7 v8; have w1 := HIX.out; go_simp; (try (first | with_reducible rfl | rfl | (simp; done))))
      try simp only [Act.put, List.setIfInBounds_toArray, List.set_cons_zero, List.set_cons_succ]
      refine wpG_takeB (i := 22) (oi := ⟨some 39, _, _, _, _, _⟩) (v := .bool false) rfl (by kernel_rfl) (by kernel_rfl) (by kernel_rfl) (by decide) (fun _ _ _ h => h) h01 rfl hHeld (Or.inl ⟨by rfl, ?_⟩) ?_
      · (intro W9 hSw; obtain ⟨v1, v2, v3, v4, v5, v6, v7, v8⟩ := hSw; have u1 := conv_RB v7; have u2 := conv_RB v8; rw [HST.out] at u1 u2; clear v7 v8; have w1 := HIX.out; go_simp; (try (first | with_reducible rfl | rfl | (simp; done))))
      try simp only [Act.put, List.setIfInBounds_toArray, List.set_cons_zero, List.set_cons_succ]
      refine wpG_takeB (i := 23) (oi := ⟨some 40, _, _, _, _, _⟩) (v := .bool false) rfl (by kernel_rfl) (by kernel_rfl) (by kernel_rfl) (by decide) (fun _ _ _ h => h) h01 rfl hHeld (Or.inl ⟨by rfl, ?_⟩) ?_
      · (intro W9 hSw; obtain ⟨v1, v2, v3, v4, v5, v6, v7, v8⟩ := hSw; have u1 := conv_RB v7; have u2 := conv_RB v8; rw [HST.out] at u1 u2; clear v7 v8; have w1 := HIX.out; go_simp; (try (first | with_reducible rfl | rfl | (simp; done))))
      try simp only [Act.put, List.setIfInBounds_toArray, List.set_cons_zero, List.set_cons_succ]
      refine wpG_takeB (i := 24) (oi := ⟨some 41, _, _, _, _, _⟩) (v := .bool false) rfl (by kernel_rfl) (by kernel_rfl) (by kernel_rfl) (by decide) (fun _ _ _ h => h) h01 rfl hHeld (Or.inl ⟨by rfl, ?_⟩) ?_
      · (intro W9 hSw; obtain ⟨v1, v2, v3, v4, v5, v6, v7, v8⟩ := hSw; have u1 := conv_RB v7; have u2 := conv_RB v8; rw [HST.out] at u1 u2; clear v7 v8; have w1 := HIX.out; go_simp; (try (first | with_reducible rfl | rfl | (simp; done))))
      try simp only [Act.put, List.setIfInBounds_toArray, List.set_cons_zero, List.set_cons_succ]
      refine wpG_takeB (i := 25) (oi := ⟨some 42, _, _, _, _, _⟩) (v := .slice (some ⟨b1, o1, none⟩) n1 c1) rfl (by kernel_rfl) (by kernel_rfl) (by kernel_rfl) (by decide) (fun _ _ _ h => h) h01 rfl hHeld (Or.inl ⟨by rfl, ?_⟩) ?_
      · (intro W9 hSw; obtain ⟨v1, v2, v3, v4, v5, v6, v7, v8⟩ := hSw; have u1 := conv_RB v7; have u2 := conv_RB v8; rw [HST.out] at u1 u2; clear v7 v8; have w1 := HIX.out; go_simp; (try (first | with_reducible rfl | rfl | (simp; done))))
      try simp only [Act.put, List.setIfInBounds_toArray, List.set_cons_zero, List.set_cons_succ]
      refine wpG_takeB (i := 26) (oi := ⟨some 43, _, _, _, _, _⟩) (v := .int .i64 (i : Int)) rfl (by kernel_rfl) (by kernel_rfl) (by kernel_rfl) (by decide) (fun _ _ _ h => h) h01 rfl hHeld (Or.inl ⟨by rfl, ?_⟩) ?_
      · (intro W9 hSw; obtain ⟨v1, v2, v3, v4, v5, v6, v7, v8⟩ := hSw; have u1 := conv_RB v7; have u2 := conv_RB v8; rw [HST.out] at u1 u2; clear v7 v8; have w1 := HIX.out; go_simp; (try (first | with_reducible rfl | rfl | (simp; done))))
      try simp only [Act.put, List.setIfInBounds_toArray, List.set_cons_zero, List.set_cons_succ]
      refine wpG_takeB (i := 27) (oi := ⟨some 44, _, _, _, _, _⟩) (v := .pointer (some ⟨b1, o1 + i * 3, none⟩)) rfl (by kernel_rfl) (by kernel_rfl) (by kernel_rfl) (by decide) (fun _ _ _ h => h) h01 rfl hHeld (Or.inl ⟨by rfl, ?_⟩) ?_
      · (intro W9 hSw; obtain ⟨v1, v2, v3, v4, v5, v6, v7, v8⟩ := hSw; have u1 := conv_RB v7; have u2 := conv_RB v8; rw [HST.out] at u1 u2; clear v7 v8; have w1 := HIX.out; go_simp; (try (first | with_reducible rfl | rfl | (simp; done))))
      try simp only [Act.put, List.setIfInBounds_toArray, List.set_cons_zero, List.set_cons_succ]
      refine wpG_takeB (i := 28) (oi := ⟨some 45, _, _, _, _, _⟩) (v := .pointer (some ⟨b1, o1 + i * 3 + 2, none⟩)) rfl (by kernel_rfl) (by kernel_rfl) (by kernel_rfl) (by decide) (fun _ _ _ h => h) h01 rfl hHeld (Or.inl ⟨by rfl, ?_⟩) ?_
      · (intro W9 hSw; obtain ⟨v1, v2, v3, v4, v5, v6, v7, v8⟩ := hSw; have u1 := conv_RB v7; have u2 := conv_RB v8; rw [HST.out] at u1 u2; clear v7 v8; have w1 := HIX.out; go_simp; (try (first | with_reducible rfl | rfl | (simp; done))))
      try simp only [Act.put, List.setIfInBounds_toArray, List.set_cons_zero, List.set_cons_succ]
      refine wpG_takeB (i := 29) (oi := ⟨some 46, _, _, _, _, _⟩) (v := .slice D1 m1 k1) rfl (by kernel_rfl) (by kernel_rfl) (by kernel_rfl) (by decide) (fun _ _ _ h => h) h01 rfl hHeld (Or.inl ⟨by rfl, ?_⟩) ?_
      · (intro W9 hSw; obtain ⟨v1, v2, v3, v4, v5, v6, v7, v8⟩ := hSw; have u1 := conv_RB v7; have u2 := conv_RB v8; rw [HST.out] at u1 u2; clear v7 v8; have w1 := HIX.out; go_simp; (try (first | with_reducible rfl | rfl | (simp; done))))
      try simp only [Act.put, List.setIfInBounds_toArray, List.set_cons_zero, List.set_cons_succ]
      refine wpG_takeB (i := 30) (oi := ⟨some 47, _, _, _, _, _⟩) (v := .string s9) rfl (by kernel_rfl) (by kernel_rfl) (by kernel_rfl) (by decide) (fun _ _ _ h => h) h01 rfl hHeld (Or.inl ⟨by rfl, ?_⟩) ?_
      · (intro W9 hSw; obtain ⟨v1, v2, v3, v4, v5, v6, v7, v8⟩ := hSw; have u1 := conv_RB v7; have u2 := conv_RB v8; rw [HST.out] at u1 u2; clear v7 v8; have w1 := HIX.out; go_simp; (try (first | with_reducible rfl | rfl | (simp; done))))
      try simp only [Act.put, List.setIfInBounds_toArray, List.set_cons_zero, List.set_cons_succ]
      refine wpG_takeB (i := 31) (oi := ⟨some 48, _, _, _, _, _⟩) (v := .slice (some ⟨b2, o2, none⟩) n1 c2) rfl (by kernel_rfl) (by kernel_rfl) (by kernel_rfl) (by decide) (fun _ _ _ h => h) h01 rfl hHeld (Or.inl ⟨by rfl, ?_⟩) ?_
      · (intro W9 hSw; obtain ⟨v1, v2, v3, v4, v5, v6, v7, v8⟩ := hSw; have u1 := conv_RB v7; have u2 := conv_RB v8; rw [HST.out] at u1 u2; clear v7 v8; have w1 := HIX.out; go_simp; (try (first | with_reducible rfl | rfl | (simp; done))))
      try simp only [Act.put, List.setIfInBounds_toArray, List.set_cons_zero, List.set_cons_succ]
      refine wpG_takeB (i := 32) (oi := ⟨some 49, _, _, _, _, _⟩) (v := .int .i64 (i : Int)) rfl (by kernel_rfl) (by kernel_rfl) (by kernel_rfl) (by decide) (fun _ _ _ h => h) h01 rfl hHeld (Or.inl ⟨by rfl, ?_⟩) ?_
      · (intro W9 hSw; obtain ⟨v1, v2, v3, v4, v5, v6, v7, v8⟩ := hSw; have u1 := conv_RB v7; have u2 := conv_RB v8; rw [HST.out] at u1 u2; clear v7 v8; have w1 := HIX.out; go_simp; (try (first | with_reducible rfl | rfl | (simp; done))))
      try simp only [Act.put, List.setIfInBounds_toArray, List.set_cons_zero, List.set_cons_succ]
      refine wpG_takeB (i := 33) (oi := ⟨some 50, _, _, _, _, _⟩) (v := .pointer (some ⟨b2, o2 + i * 3, none⟩)) rfl (by kernel_rfl) (by kernel_rfl) (by kernel_rfl) (by decide) (fun _ _ _ h => h) h01 rfl hHeld (Or.inl ⟨by rfl, ?_⟩) ?_
      · (intro W9 hSw; obtain ⟨v1, v2, v3, v4, v5, v6, v7, v8⟩ := hSw; have u1 := conv_RB v7; have u2 := conv_RB v8; rw [HST.out] at u1 u2; clear v7 v8; have w1 := HIX.out; go_simp; (try (first | with_reducible rfl | rfl | (simp; done))))
      try simp only [Act.put, List.setIfInBounds_toArray, List.set_cons_zero, List.set_cons_succ]
      refine wpG_takeB (i := 34) (oi := ⟨some 51, _, _, _, _, _⟩) (v := .pointer (some ⟨b2, o2 + i * 3 + 2, none⟩)) rfl (by kernel_rfl) (by kernel_rfl) (by kernel_rfl) (by decide) (fun _ _ _ h => h) h01 rfl hHeld (Or.inl ⟨by rfl, ?_⟩) ?_
      · (intro W9 hSw; obtain ⟨v1, v2, v3, v4, v5, v6, v7, v8⟩ := hSw; have u1 := conv_RB v7; have u2 := conv_RB v8; rw [HST.out] at u1 u2; clear v7 v8; have w1 := HIX.out; go_simp; (try (first | with_reducible rfl | rfl | (simp; done))))
      try simp only [Act.put, List.setIfInBounds_toArray, List.set_cons_zero, List.set_cons_succ]
      refine wpG_takeB (i := 35) (oi := ⟨some 52, _, _, _, _, _⟩) (v := .slice D2 m2 k2) rfl (by kernel_rfl) (by kernel_rfl) (by kernel_rfl) (by decide) (fun _ _ _ h => h) h01 rfl hHeld (Or.inl ⟨by rfl, ?_⟩) ?_
      · (intro W9 hSw; obtain ⟨v1, v2, v3, v4, v5, v6, v7, v8⟩ := hSw; have u1 := conv_RB v7; have u2 := conv_RB v8; rw [HST.out] at u1 u2; clear v7 v8; have w1 := HIX.out; go_simp; (try (first | with_reducible rfl | rfl | (simp; done))))
      try simp only [Act.put, List.setIfInBounds_toArray, List.set_cons_zero, List.set_cons_succ]
      refine wpG_takeB (i := 36) (oi := ⟨some 53, _, _, _, _, _⟩) (v := .string s9) rfl (by kernel_rfl) (by kernel_rfl) (by kernel_rfl) (by decide) (fun _ _ _ h => h) h01 rfl hHeld (Or.inl ⟨by rfl, ?_⟩) ?_
      · (intro W9 hSw; obtain ⟨v1, v2, v3, v4, v5, v6, v7, v8⟩ := hSw; have u1 := conv_RB v7; have u2 := conv_RB v8; rw [HST.out] at u1 u2; clear v7 v8; have w1 := HIX.out; go_simp; (try (first | with_reducible rfl | rfl | (simp; done))))
      try simp only [Act.put, List.setIfInBounds_toArray, List.set_cons_zero, List.set_cons_succ]
      refine wpG_takeB (i := 37) (oi := ⟨some 54, _, _, _, _, _⟩) (v := .bool false) rfl (by kernel_rfl) (by kernel_rfl) (by kernel_rfl) (by decide) (fun _ _ _ h => h) h01 rfl hHeld (Or.inl ⟨by rfl, ?_⟩) ?_
      · (intro W9 hSw; obtain ⟨v1, v2, v3, v4, v5, v6, v7, v8⟩ := hSw; have u1 := conv_RB v7; have u2 := conv_RB v8; rw [HST.out] at u1 u2; clear v7 v8; have w1 := HIX.out; go_simp; (try (first | with_reducible rfl | rfl | (simp; done))))
      try simp only [Act.put, List.setIfInBounds_toArray, List.set_cons_zero, List.set_cons_succ]
      refine wpG_takeB (i := 38) (oi := ⟨some 55, _, _, _, _, _⟩) (v := .bool false) rfl (by kernel_rfl) (by kernel_rfl) (by kernel_rfl) (by decide) (fun _ _ _ h => h) h01 rfl hHeld (Or.inl ⟨by rfl, ?_⟩) ?_
      · (intro W9 hSw; obtain ⟨v1, v2, v3, v4, v5, v6, v7, v8⟩ := hSw; have u1 := conv_RB v7; have u2 := conv_RB v8; rw [HST.out] at u1 u2; clear v7 v8; have w1 := HIX.out; go_simp; (try (first | with_reducible rfl | rfl | (simp; done))))
      try simp only [Act.put, List.setIfInBounds_toArray, List.set_cons_zero, List.set_cons_succ]
      refine wpG_done (by kernel_rfl) ?_ _
      clear hHeld h01
      go_wp2_with fail
      go_roundw
      case rel => exact ⟨i + 1, by have := HIX.out; omega, by go_num, Lib.hid (below_drew HB.out)⟩
      case measure => have := HIX.out; simp [intOf]; omega
    · go_wp2_with fail
      go_ret
      exact ⟨rfl, HB.out⟩

/-- A slice of gaps. -/
structure GL (W : World) (A : Option Addr) (n c : Nat) (gs : List (Nat × Nat)) : Prop where
  len : gs.length = n
  h : HoldsS W 2 A n (gs.flatMap gcells)
theorem gp_get (gs : List (Nat × Nat)) : ∀ (i : Nat) (hi : i < gs.length), (gs.flatMap gcells)[i * 2]? = some (.int .i64 (gs[i].1 : Int)) ∧ (gs.flatMap gcells)[i * 2 + 1]? = some (.int .i64 (gs[i].2 : Int)) := by
  induction gs with
  | nil => intro i hi; simp at hi
  | cons d ds ih =>
    intro i hi
    cases i with
    | zero => simp [gcells]
    | succ i =>
      have := ih i (by simpa using hi)
      have e : (i + 1) * 2 = 2 + i * 2 := by omega
      have h3 : (gcells d).length = 2 := rfl
      simp only [List.flatMap_cons, List.getElem_cons_succ]
      rw [e, List.getElem?_append_right (by omega), List.getElem?_append_right (by omega), h3]
      simpa [Nat.add_assoc] using this
theorem GL.at {W : World} {A : Option Addr} {n c : Nat} {gs : List (Nat × Nat)} (h : GL W A n c gs) (hn : 0 < n) : ∃ b o, A = some ⟨b, o, none⟩ ∧ ∀ (i : Nat) (hi : i < gs.length), W.cell? ⟨b, o + i * 2, none⟩ = some (.int .i64 (gs[i].1 : Int)) ∧ W.cell? ⟨b, o + i * 2 + 1, none⟩ = some (.int .i64 (gs[i].2 : Int)) := by
  have h0 : A ≠ none := fun hA => by have := h.h.2.1 hA; omega
  obtain ⟨a, rfl⟩ := Option.ne_none_iff_exists'.1 h0
  have hl : 0 < gs.length := by rw [h.len]; exact hn
  have h1 := h.h.2.2 a rfl 0 _ (gp_get gs 0 hl).1
  have hs : a.spot = none := by have := World.cell?_spot h1; simpa [Addr.add] using this
  obtain ⟨b, o, sp⟩ := a
  simp at hs
  subst hs
  refine ⟨b, o, rfl, fun i hi => ?_⟩
  obtain ⟨q1, q2⟩ := gp_get gs i hi
  have k1 := h.h.2.2 _ rfl _ _ q1
  have k2 := h.h.2.2 _ rfl _ _ q2
  rw [Addr.add_lit] at k1 k2
  exact ⟨k1, by rw [Nat.add_assoc]; exact k2⟩
theorem GL.below {W W' : World} {A : Option Addr} {n c : Nat} {gs : List (Nat × Nat)} (h : GL W A n c gs) (hb : Below W.heap.size W W') : GL W' A n c gs := ⟨h.len, h.h.keep hb⟩
theorem own_GL {W : World} {B n c : Nat} {A : Option Addr} {gs : List (Nat × Nat)} (h : W.ownsRow B 63 2 (.slice A n c) n (gs.flatMap gcells)) : GL W A n c gs := ⟨by have := h.1; rw [gcells_len] at this; omega, HoldsS.own h⟩
theorem neq63 (x y : Int) (W : World) : (binOp .neq 63 (.agg #[.int .i64 x, .int .i64 y]) (.agg #[.int .i64 x, .int .i64 y])).run Try.prog W = .ok (.bool false) W := by
  have hf : Try.prog.fieldsOf 63 = #[{ name := "From", type := 3, offset := 0, embedded := false, tag := "", pkgPath := "", byteOffset := 0 }, { name := "To", type := 3, offset := 1, embedded := false, tag := "", pkgPath := "", byteOffset := 8 }] := by kernel_rfl
  have h63 : Try.prog.underlying 63 = some (.struct (Try.prog.fieldsOf 63)) := by kernel_rfl
  have hp : Try.prog.stoodInHeld 63 = false := by kernel_rfl
  have hi : (Try.prog.info? 3).map (·.size) = some 1 := by kernel_rfl
  rw [run_neq_struct, run_equalIn_agg W 9999 63 _ _ h63 hp, hf]
  have h3 : Try.prog.underlying 3 = some (.int .i64) := Try.underlying3
  simp [Op.eqFields, part, go_sem, run_equalIn_int, h3]
def GpR (b1 o1 b2 o2 : Nat) (x y : Int) (W : World) : Prop := W.cell? ⟨b1, o1, none⟩ = some (.int .i64 x) ∧ W.cell? ⟨b1, o1 + 1, none⟩ = some (.int .i64 y) ∧ W.cell? ⟨b2, o2, none⟩ = some (.int .i64 x) ∧ W.cell? ⟨b2, o2 + 1, none⟩ = some (.int .i64 y)

set_option maxRecDepth 100000 in
set_option maxHeartbeats 4000000 in
theorem gaps_any (A1 A2 : Option Addr) (n1 c1 n2 c2 : Nat) (gs : List (Nat × Nat)) (w : World) (h1 : GL w A1 n1 c1 gs) (h2 : GL w A2 n2 c2 gs) (hn : n1 ≤ 1000000000) :
    Calls Try.prog 25 #[.slice A1 n1 c1, .slice A2 n2 c2] w fun e w' => e = .returned (.bool true) ∧ Below w.heap.size w w' := by
  obtain rfl : n1 = n2 := by rw [← h1.len, ← h2.len]
  have H1 := Lib.hid h1
  have H2 := Lib.hid h2
  have HL1 := Lib.hid h1.len
  have hnn : (n1 : Int) ≤ 1000000000 := by omega
  have q0 : ((n1 : Int) != n1) = false := by simp
  clear h1 h2 hn
  go_enter Try.func25, Try.ntmps25
  go_wp2_with fail
  go_loopw [5] (fun ii wr => ∃ i : Nat, (i : Int) ≤ n1 ∧ ii = .int .i64 i ∧ Hid (Below w.heap.size w wr)) (fun ii _ => n1 - (intOf ii).toNat)
  case atStart => exact ⟨0, by omega, rfl, Lib.hid (Below.refl _ _)⟩
  case round =>
    obtain ⟨i, hi, rfl, HB⟩ := hrel
    have hi0 : (0 : Int) ≤ i := by omega
    obtain ⟨wo, rfl⟩ : ∃ wo : World, wo = wr := ⟨_, rfl⟩
    by_cases hlt : (i : Int) < n1
    · have hi1 : i < gs.length := by rw [HL1.out]; omega
      obtain ⟨b1, o1, rfl, hc1⟩ := H1.out.at (by omega)
      obtain ⟨b2, o2, rfl, hc2⟩ := H2.out.at (by omega)
      have p1 := hc1 i hi1
      have p2 := hc2 i hi1
      obtain ⟨x9, hx⟩ : ∃ x9 : Int, ((gs[i].1 : Nat) : Int) = x9 := ⟨_, rfl⟩
      obtain ⟨y9, hy⟩ : ∃ y9 : Int, ((gs[i].2 : Nat) : Int) = y9 := ⟨_, rfl⟩
      rw [hx, hy] at p1 p2
      have hbd : Below w.heap.size w wo.drew := HB.out.trans (below_drew (Below.refl _ wo) |>.mono HB.out.size)
      have HS6 := Lib.hid (show GpR b1 (o1 + i * 2) b2 (o2 + i * 2) x9 y9 wo.drew from ⟨cell_below p1.1 hbd, cell_below p1.2 hbd, cell_below p2.1 hbd, cell_below p2.2 hbd⟩)
      have HIX := Lib.hid (show (0 : Int) ≤ i ∧ (i : Int) < n1 from ⟨hi0, hlt⟩)
      clear p1 p2 hc1 hc2 hx hy hi1 hbd
      go_upto_region 6 with fail
      refine wp_region_G (S0 := (GpR b1 (o1 + i * 2) b2 (o2 + i * 2) x9 y9)) (S1 := (GpR b1 (o1 + i * 2) b2 (o2 + i * 2) x9 y9)) (c := 99) (by kernel_rfl) ?_
      have hHeld := HS6.out
      have h01 := (fun (W : World) (h : (GpR b1 (o1 + i * 2) b2 (o2 + i * 2) x9 y9) W) => h)
      refine wpG_takeB (i := 0) (oi := ⟨some 17, _, _, _, _, _⟩) (v := .slice (some ⟨b1, o1, none⟩) n1 c1) rfl (by kernel_rfl) (by kernel_rfl) (by kernel_rfl) (by decide) (fun _ _ _ h => h) h01 rfl hHeld (Or.inl ⟨by rfl, ?_⟩) ?_
      · (intro W9 hSw; obtain ⟨v1, v2, v3, v4⟩ := hSw; have w1 := HIX.out; go_simp; (try (first | with_reducible rfl | rfl | (exact neq63 _ _ _) | (simp; done))))
      try simp only [Act.put, List.setIfInBounds_toArray, List.set_cons_zero, List.set_cons_succ]
      refine wpG_takeB (i := 1) (oi := ⟨some 18, _, _, _, _, _⟩) (v := .int .i64 (i : Int)) rfl (by kernel_rfl) (by kernel_rfl) (by kernel_rfl) (by decide) (fun _ _ _ h => h) h01 rfl hHeld (Or.inl ⟨by rfl, ?_⟩) ?_
      · (intro W9 hSw; obtain ⟨v1, v2, v3, v4⟩ := hSw; have w1 := HIX.out; go_simp; (try (first | with_reducible rfl | rfl | (exact neq63 _ _ _) | (simp; done))))
      try simp only [Act.put, List.setIfInBounds_toArray, List.set_cons_zero, List.set_cons_succ]
      refine wpG_takeB (i := 2) (oi := ⟨some 19, _, _, _, _, _⟩) (v := .pointer (some ⟨b1, o1 + i * 2, none⟩)) rfl (by kernel_rfl) (by kernel_rfl) (by kernel_rfl) (by decide) (fun _ _ _ h => h) h01 rfl hHeld (Or.inl ⟨by rfl, ?_⟩) ?_
      · (intro W9 hSw; obtain ⟨v1, v2, v3, v4⟩ := hSw; have w1 := HIX.out; go_simp; (try (first | with_reducible rfl | rfl | (exact neq63 _ _ _) | (simp; done))))
      try simp only [Act.put, List.setIfInBounds_toArray, List.set_cons_zero, List.set_cons_succ]
      refine wpG_takeB (i := 3) (oi := ⟨some 20, _, _, _, _, _⟩) (v := .agg #[.int .i64 x9, .int .i64 y9]) rfl (by kernel_rfl) (by kernel_rfl) (by kernel_rfl) (by decide) (fun _ _ _ h => h) h01 rfl hHeld (Or.inl ⟨by rfl, ?_⟩) ?_
      · (intro W9 hSw; obtain ⟨v1, v2, v3, v4⟩ := hSw; have w1 := HIX.out; go_simp; (try (first | with_reducible rfl | rfl | (exact neq63 _ _ _) | (simp; done))))
      try simp only [Act.put, List.setIfInBounds_toArray, List.set_cons_zero, List.set_cons_succ]
      refine wpG_takeB (i := 4) (oi := ⟨some 21, _, _, _, _, _⟩) (v := .slice (some ⟨b2, o2, none⟩) n1 c2) rfl (by kernel_rfl) (by kernel_rfl) (by kernel_rfl) (by decide) (fun _ _ _ h => h) h01 rfl hHeld (Or.inl ⟨by rfl, ?_⟩) ?_
      · (intro W9 hSw; obtain ⟨v1, v2, v3, v4⟩ := hSw; have w1 := HIX.out; go_simp; (try (first | with_reducible rfl | rfl | (exact neq63 _ _ _) | (simp; done))))
      try simp only [Act.put, List.setIfInBounds_toArray, List.set_cons_zero, List.set_cons_succ]
      refine wpG_takeB (i := 5) (oi := ⟨some 22, _, _, _, _, _⟩) (v := .int .i64 (i : Int)) rfl (by kernel_rfl) (by kernel_rfl) (by kernel_rfl) (by decide) (fun _ _ _ h => h) h01 rfl hHeld (Or.inl ⟨by rfl, ?_⟩) ?_
      · (intro W9 hSw; obtain ⟨v1, v2, v3, v4⟩ := hSw; have w1 := HIX.out; go_simp; (try (first | with_reducible rfl | rfl | (exact neq63 _ _ _) | (simp; done))))
      try simp only [Act.put, List.setIfInBounds_toArray, List.set_cons_zero, List.set_cons_succ]
      refine wpG_takeB (i := 6) (oi := ⟨some 23, _, _, _, _, _⟩) (v := .pointer (some ⟨b2, o2 + i * 2, none⟩)) rfl (by kernel_rfl) (by kernel_rfl) (by kernel_rfl) (by decide) (fun _ _ _ h => h) h01 rfl hHeld (Or.inl ⟨by rfl, ?_⟩) ?_
      · (intro W9 hSw; obtain ⟨v1, v2, v3, v4⟩ := hSw; have w1 := HIX.out; go_simp; (try (first | with_reducible rfl | rfl | (exact neq63 _ _ _) | (simp; done))))
      try simp only [Act.put, List.setIfInBounds_toArray, List.set_cons_zero, List.set_cons_succ]
      refine wpG_takeB (i := 7) (oi := ⟨some 24, _, _, _, _, _⟩) (v := .agg #[.int .i64 x9, .int .i64 y9]) rfl (by kernel_rfl) (by kernel_rfl) (by kernel_rfl) (by decide) (fun _ _ _ h => h) h01 rfl hHeld (Or.inl ⟨by rfl, ?_⟩) ?_
      · (intro W9 hSw; obtain ⟨v1, v2, v3, v4⟩ := hSw; have w1 := HIX.out; go_simp; (try (first | with_reducible rfl | rfl | (exact neq63 _ _ _) | (simp; done))))
      try simp only [Act.put, List.setIfInBounds_toArray, List.set_cons_zero, List.set_cons_succ]
      refine wpG_takeB (i := 8) (oi := ⟨some 25, _, _, _, _, _⟩) (v := .bool false) rfl (by kernel_rfl) (by kernel_rfl) (by kernel_rfl) (by decide) (fun _ _ _ h => h) h01 rfl hHeld (Or.inl ⟨by rfl, ?_⟩) ?_
      · (intro W9 hSw; obtain ⟨v1, v2, v3, v4⟩ := hSw; have w1 := HIX.out; go_simp; (try (first | with_reducible rfl | rfl | (exact neq63 _ _ _) | (simp; done))))
      try simp only [Act.put, List.setIfInBounds_toArray, List.set_cons_zero, List.set_cons_succ]
      refine wpG_done (by kernel_rfl) ?_ _
      clear hHeld h01
      go_wp2_with fail
      go_roundw
      case rel => exact ⟨i + 1, by have := HIX.out; omega, by go_num, Lib.hid (below_drew HB.out)⟩
      case measure => have := HIX.out; simp [intOf]; omega
    · go_wp2_with fail
      go_ret
      exact ⟨rfl, HB.out⟩

/-- How many bytes of data packets have. -/
def totP : List Pk → Nat
  | [] => 0
  | p :: l => p.d.length + totP l
theorem totP_append (a b : List Pk) : totP (a ++ b) = totP a + totP b := by
  induction a with
  | nil => simp [totP]
  | cons p a ih => simp only [List.cons_append, totP, ih]; omega
def fewB (most : Int) (l : List Pk) : Bool := l.all (fun p => decide (p.d.length ≤ 5000)) && (decide ((l.length : Int) ≤ most) && decide (totP l ≤ 20000))
theorem fewB_iff {most : Int} {l : List Pk} : fewB most l = true ↔ (∀ p ∈ l, p.d.length ≤ 5000) ∧ (l.length : Int) ≤ most ∧ totP l ≤ 20000 := by simp [fewB]
theorem totP_take (ps : List Pd) (i : Nat) (h : i < ps.length) : totP (pks (ps.take (i + 1))) = totP (pks (ps.take i)) + (ps[i]).d.length := by
  rw [pks, pks, List.take_add_one, List.getElem?_eq_getElem h, List.map_append, totP_append]
  simp [totP, Pd.pk]
theorem totP_le (ps : List Pd) (h : ∀ p ∈ ps, p.d.length ≤ 5000) : totP (pks ps) ≤ ps.length * 5000 := by
  induction ps with
  | nil => simp [pks, totP]
  | cons p ps ih =>
    have h1 := h p (by simp)
    have h2 := ih fun q hq => h q (by simp [hq])
    have : pks (p :: ps) = p.pk :: pks ps := rfl
    rw [this, totP, List.length_cons, Nat.succ_mul]
    have : p.pk.d = p.d := rfl
    rw [this]
    omega

set_option maxRecDepth 100000 in
set_option maxHeartbeats 4000000 in
theorem few_any (A : Option Addr) (n c : Nat) (ps : List Pd) (most : Int) (w : World) (h : PL w A n c ps) (hn : n ≤ 140737488355328) (hm0 : 0 ≤ most) (hm1 : most ≤ 1000) :
    Calls Try.prog 9 #[.slice A n c, .int .i64 most] w fun e w' => e = .returned (.bool (fewB most (pks ps))) ∧ Below w.heap.size w w' := by
  have hlen : (pks ps).length = n := by unfold pks; rw [List.length_map]; exact h.len
  have HLN := Lib.hid hlen
  have HP := Lib.hid h
  have HL := Lib.hid h.len
  have hn0 : (n : Int) ≤ 140737488355328 := by omega
  obtain ⟨F, hF⟩ : ∃ F, fewB most (pks ps) = F := ⟨_, rfl⟩
  have HF := Lib.hid hF
  rw [hF]
  clear h hn hlen hF
  go_enter Try.func9, Try.ntmps9
  go_wp2_with fail
  go_loopw [5, 6] (fun nn ii wr => ∃ i : Nat, (i : Int) ≤ n ∧ ii = .int .i64 i ∧ nn = .int .i64 (totP (pks (ps.take i)) : Int) ∧ Hid (∀ p ∈ ps.take i, p.d.length ≤ 5000) ∧ Hid (Below w.heap.size w wr)) (fun _ ii _ => n - (intOf ii).toNat)
  case atStart => exact ⟨0, by omega, rfl, rfl, Lib.hid (by simp), Lib.hid (Below.refl _ _)⟩
  case round =>
    obtain ⟨i, hi, rfl, rfl, HA, HB⟩ := hrel
    have hi0 : (0 : Int) ≤ i := by omega
    have hacc := totP_le (ps.take i) HA.out
    have hti : (ps.take i).length = i := by rw [List.length_take, HL.out]; omega
    rw [hti] at hacc
    by_cases hlt : (i : Int) < n
    · have hi1 : i < ps.length := by rw [HL.out]; omega
      obtain ⟨b, o, rfl, hat⟩ := HP.out.at (by omega)
      have hp := (hat i hi1).below HB.out
      have hs := totP_take ps i hi1
      have hr := HP.out.r _ (List.getElem_mem hi1)
      have HMEM : Hid (5000 < (ps[i]).d.length → F = false) := Lib.hid fun h5 => by
        rw [← HF.out]
        rcases Bool.eq_false_or_eq_true (fewB most (pks ps)) with h2 | h2
        · have := (fewB_iff.1 h2).1 (ps[i]).pk (List.mem_map.2 ⟨_, List.getElem_mem hi1, rfl⟩)
          have e : (ps[i]).pk.d = (ps[i]).d := rfl
          rw [e] at this
          omega
        · exact h2
      have HNX : Hid ((ps[i]).d.length ≤ 5000 → ∀ p ∈ ps.take (i + 1), p.d.length ≤ 5000) := Lib.hid fun h5 p hp => by
        rw [List.take_succ_eq_append_getElem hi1] at hp
        rcases List.mem_append.1 hp with h1 | h1
        · exact HA.out p h1
        · rw [List.mem_singleton.1 h1]; exact h5
      generalize ps[i] = p at *
      obtain ⟨x, hx⟩ : ∃ x : Int, ((totP (pks (ps.take i)) : Nat) : Int) = x := ⟨_, rfl⟩
      have HX := Lib.hid hx
      have HS := Lib.hid hs
      have hx0 : 0 ≤ x := by omega
      have hx1 : x ≤ 703687441776640000 := by omega
      obtain ⟨Nn, hNn⟩ : ∃ Nn : Int, (p.n : Int) = Nn := ⟨_, rfl⟩
      have hN0 : 0 ≤ Nn := by omega
      have hN1 : Nn ≤ 9223372036854775807 := by have := hr.r.mc; have := hr.r.cm; unfold maxLen at this; omega
      have HDN := Lib.hid (show (p.d.length : Int) = Nn by rw [hr.r.len]; exact hNn)
      obtain ⟨f0, f1, f2⟩ := hp
      rw [hx]
      by_cases h5 : 5000 < Nn
      · have q1 : decide (5000 < Nn) = true := decide_eq_true h5
        have HFF := Lib.hid (HMEM.out (by have := HDN.out; omega))
        clear hs hx hacc hti hr hat h5
        go_wp2_with fail
        go_ret
        rw [HFF.out]
        exact ⟨rfl, HB.out⟩
      · have q1 : decide (5000 < Nn) = false := decide_eq_false h5
        have HNXX := Lib.hid (HNX.out (by have := HDN.out; omega))
        have hN5 : Nn ≤ 5000 := by omega
        clear hs hx hacc hti hr hat h5
        go_wp2_with fail
        go_roundw
        case rel => exact ⟨i + 1, by omega, by go_num, by rw [HS.out]; exact congrArg (Value.int .i64) (by have := HX.out; have := HDN.out; omega), HNXX, HB⟩
        case measure => simp [intOf]; omega
    · have HLE := Lib.hid (show ps.take i = ps by rw [List.take_of_length_le]; rw [HL.out]; omega)
      rw [HLE.out] at HA ⊢
      have he : F = (decide ((n : Int) ≤ most) && decide ((totP (pks ps) : Int) ≤ 20000)) := by
        rw [← HF.out]
        unfold fewB
        rw [HLN.out]
        have e1 : (pks ps).all (fun p => decide (p.d.length ≤ 5000)) = true := by
          rw [List.all_eq_true]
          intro p hp
          obtain ⟨q, hq, rfl⟩ := List.mem_map.1 hp
          exact decide_eq_true (HA.out q hq)
        have e2 : decide (totP (pks ps) ≤ 20000) = decide ((totP (pks ps) : Int) ≤ 20000) := by congr 1; apply propext; omega
        rw [e1, e2]
        rfl
      have hs0 : (0 : Int) ≤ (totP (pks ps) : Int) := by omega
      have HE := Lib.hid he
      clear hacc hti he HLE
      generalize (totP (pks ps) : Int) = s at *
      by_cases h1 : (n : Int) ≤ most
      · have q1 : decide ((n : Int) ≤ most) = true := decide_eq_true h1
        by_cases h2 : s ≤ 20000
        · have q2 : decide (s ≤ 20000) = true := decide_eq_true h2
          have HFF := Lib.hid (show F = true by rw [HE.out, q1, q2]; rfl)
          go_wp2_with fail
          go_ret
          rw [HFF.out]
          exact ⟨rfl, HB.out⟩
        · have q2 : decide (s ≤ 20000) = false := decide_eq_false h2
          have HFF := Lib.hid (show F = false by rw [HE.out, q1, q2]; rfl)
          go_wp2_with fail
          go_ret
          rw [HFF.out]
          exact ⟨rfl, HB.out⟩
      · have q1 : decide ((n : Int) ≤ most) = false := decide_eq_false h1
        have HFF := Lib.hid (show F = false by rw [HE.out, q1]; rfl)
        go_wp2_with fail
        go_ret
        rw [HFF.out]
        exact ⟨rfl, HB.out⟩

/-- A call: Close, or Add of a packet. -/
structure Ac where
  cl : Bool
  p : Pd
def Ac.cells (a : Ac) : List Value := [.bool a.cl, .int .i64 a.p.t, .int .i64 a.p.f, .slice a.p.A a.p.n a.p.c]
def Ac.val (a : Ac) : Value := .agg #[.bool a.cl, .int .i64 a.p.t, .int .i64 a.p.f, .slice a.p.A a.p.n a.p.c]
structure AL (W : World) (A : Option Addr) (n c : Nat) (acs : List Ac) : Prop where
  len : acs.length = n
  h : HoldsS W 4 A n (acs.flatMap Ac.cells)
  r : ∀ a ∈ acs, PdR W a.p
theorem AL.below {W W' : World} {A : Option Addr} {n c : Nat} {acs : List Ac} (h : AL W A n c acs) (hb : Below W.heap.size W W') : AL W' A n c acs := ⟨h.len, h.h.keep hb, fun a ha => (h.r a ha).below hb⟩
theorem ac_get (acs : List Ac) : ∀ (i : Nat) (hi : i < acs.length), (acs.flatMap Ac.cells)[i * 4]? = some (.bool acs[i].cl) ∧ (acs.flatMap Ac.cells)[i * 4 + 1]? = some (.int .i64 acs[i].p.t) ∧ (acs.flatMap Ac.cells)[i * 4 + 2]? = some (.int .i64 acs[i].p.f) ∧ (acs.flatMap Ac.cells)[i * 4 + 3]? = some (.slice acs[i].p.A acs[i].p.n acs[i].p.c) := by
  induction acs with
  | nil => intro i hi; simp at hi
  | cons d ds ih =>
    intro i hi
    cases i with
    | zero => simp [Ac.cells]
    | succ i =>
      have := ih i (by simpa using hi)
      have e : (i + 1) * 4 = 4 + i * 4 := by omega
      have h3 : d.cells.length = 4 := rfl
      simp only [List.flatMap_cons, List.getElem_cons_succ]
      rw [e, List.getElem?_append_right (by omega), List.getElem?_append_right (by omega), List.getElem?_append_right (by omega), List.getElem?_append_right (by omega), h3]
      simpa [Nat.add_assoc] using this
/-- An element. -/
structure AAt (W : World) (b o : Nat) (a : Ac) : Prop where
  h0 : W.cell? ⟨b, o, none⟩ = some (.bool a.cl)
  h1 : W.cell? ⟨b, o + 1, none⟩ = some (.int .i64 a.p.t)
  h2 : W.cell? ⟨b, o + 2, none⟩ = some (.int .i64 a.p.f)
  h3 : W.cell? ⟨b, o + 3, none⟩ = some (.slice a.p.A a.p.n a.p.c)
theorem AAt.below {W W' : World} {b o : Nat} {a : Ac} (h : AAt W b o a) (hb : Below W.heap.size W W') : AAt W' b o a := ⟨cell_below h.h0 hb, cell_below h.h1 hb, cell_below h.h2 hb, cell_below h.h3 hb⟩
theorem AL.at {W : World} {A : Option Addr} {n c : Nat} {acs : List Ac} (h : AL W A n c acs) (hn : 0 < n) : ∃ b o, A = some ⟨b, o, none⟩ ∧ ∀ (i : Nat) (hi : i < acs.length), AAt W b (o + i * 4) acs[i] := by
  have h0 : A ≠ none := fun hA => by have := h.h.2.1 hA; omega
  obtain ⟨a, rfl⟩ := Option.ne_none_iff_exists'.1 h0
  have hl : 0 < acs.length := by rw [h.len]; exact hn
  have h1 := h.h.2.2 a rfl 0 _ (ac_get acs 0 hl).1
  have hs : a.spot = none := by have := World.cell?_spot h1; simpa [Addr.add] using this
  obtain ⟨b, o, sp⟩ := a
  simp at hs
  subst hs
  refine ⟨b, o, rfl, fun i hi => ?_⟩
  obtain ⟨q1, q2, q3, q4⟩ := ac_get acs i hi
  have k1 := h.h.2.2 _ rfl _ _ q1
  have k2 := h.h.2.2 _ rfl _ _ q2
  have k3 := h.h.2.2 _ rfl _ _ q3
  have k4 := h.h.2.2 _ rfl _ _ q4
  rw [Addr.add_lit] at k1 k2 k3 k4
  exact ⟨k1, by rw [Nat.add_assoc]; exact k2, by rw [Nat.add_assoc]; exact k3, by rw [Nat.add_assoc]; exact k4⟩
def apk (acs : List Ac) : List Pd := acs.map (·.p)

set_option maxRecDepth 100000 in
set_option maxHeartbeats 4000000 in
theorem short_any (A : Option Addr) (n c : Nat) (acs : List Ac) (most : Int) (w : World) (h : AL w A n c acs) (hn : n * 48 ≤ 140737488355328) (hm0 : 0 ≤ most) (hm1 : most ≤ 1000) :
    Calls Try.prog 19 #[.slice A n c, .int .i64 most] w fun e w' => e = .returned (.bool (fewB most (pks (apk acs)))) ∧ Below w.heap.size w w' := by
  have HP := Lib.hid h
  have HL := Lib.hid h.len
  have HN := Lib.hid hn
  have HM := Lib.hid (And.intro hm0 hm1)
  have hn0 : (n : Int) ≤ 2932031007402 := by omega
  clear h hn hm0 hm1
  go_enter Try.func19, Try.ntmps19
  go_wp2_with fail
  go_loopw [5, 6] (fun vv ii wr => ∃ (i : Nat) (v : Value), (i : Int) ≤ n ∧ ii = .int .i64 i ∧ v = vv ∧ Hid (wr.ownsRow w.heap.size 31 3 v i (((apk acs).take i).flatMap Pd.cells)) ∧ Hid (Below w.heap.size w wr)) (fun _ ii _ => n - (intOf ii).toNat)
  case atStart => exact ⟨0, _, by omega, rfl, rfl, Lib.hid (by simpa using World.ownsRow_nil _ _ 31 3), Lib.hid (Below.refl _ _)⟩
  case round =>
    obtain ⟨i, v, hi, rfl, rfl, HO, HB⟩ := hrel
    have hi0 : (0 : Int) ≤ i := by omega
    obtain ⟨Av, cv, rfl, -⟩ := own_formS HO.out
    by_cases hlt : (i : Int) < n
    · have hi1 : i < acs.length := by rw [HL.out]; omega
      obtain ⟨b, o, rfl, hat⟩ := HP.out.at (by omega)
      have hp := (hat i hi1).below HB.out
      have hnx : ((apk acs).take (i + 1)).flatMap Pd.cells = ((apk acs).take i).flatMap Pd.cells ++ (acs[i]).p.cells := by
        rw [apk, List.take_succ_eq_append_getElem (by simpa using hi1), List.flatMap_append]
        simp
      generalize acs[i] = a at *
      obtain ⟨cl, t, f, Ad, nd, cd, d⟩ := a
      have HNX := Lib.hid hnx
      have HI := Lib.hid (show i < 2932031007402 by omega)
      obtain ⟨f0, f1, f2, f3⟩ := hp
      clear hat hnx
      go_wp2_with (at_builtin; go_must (refine wpList_app_sz (base := w.heap.size) (n := i) (m := 1) (xs := ((apk acs).take i).flatMap Pd.cells) (news := [.int .i64 t, .int .i64 f, .slice Ad nd cd]) rfl (.tmp 13) (.tmp 19) 22 rfl elP rfl (own_alloc HO.out) rfl (HoldsS.new _ 3 1 [.int .i64 t, .int .i64 f, .slice Ad nd cd] 31 rfl) (by simp [Value.oneCell']) (by have := HI.out; unfold maxLen; omega) (by have := HI.out; have := HN.out; omega) (by have := HB.out.size; simp; omega) (by simp) ?_; intro v2 w2 hown hg; have HO2 := Lib.hid hown; have HB2 := Lib.hid (below_own (HB.out.alloc HB.out.size _) (by have := HB.out.size; simp; omega) (own_alloc HO.out) hg); clear hown hg))
      go_roundw
      case rel => exact ⟨i + 1, _, by omega, by go_num, rfl, Lib.hid (by rw [HNX.out]; exact HO2.out), HB2⟩
      case measure => simp [intOf]; omega
    · have HLE := Lib.hid (show (apk acs).take i = apk acs by rw [List.take_of_length_le]; simp [apk]; rw [HL.out]; omega)
      rw [HLE.out] at HO
      have hin : i = n := by omega
      subst hin
      have hpl : PL wr Av i cv (apk acs) := own_PL HO.out (fun p hp => by
        obtain ⟨a, ha, rfl⟩ := List.mem_map.1 hp
        exact (HP.out.r a ha).below HB.out) (by simp [apk]; exact HL.out)
      have C9 := Lib.hid (few_any Av i cv (apk acs) most wr hpl (by have := HN.out; omega) HM.out.1 HM.out.2)
      clear hpl
      go_wp2_with (go_at_call 9; (with_reducible refine C9.out.mono ?_); rintro e w1 ⟨rfl, hb⟩; have HB1 := Lib.hid (HB.out.trans (hb.mono HB.out.size)); clear hb)
      go_ret
      exact ⟨rfl, HB1.out⟩
end Go.Proofs.Ytgbkoegmoelheaa
