/- The order of packets; whether packets are a block. -/
import Derived.Test.YtgbkoegmoelheaaCd
import Derived.Deep.CutRange
namespace Go.Proofs.Ytgbkoegmoelheaa
open Go.RowKit
set_option linter.unusedVariables false
set_option linter.unusedSimpArgs false

set_option maxRecDepth 100000 in
set_option maxHeartbeats 1000000 in
theorem cmp_any (p q : Pd) (w : World) (hp : 0 ≤ p.t) (hp1 : p.t ≤ 1099511627776) (hq : 0 ≤ q.t) (hq1 : q.t ≤ 1099511627776) :
    Calls Try.prog 55 #[.agg #[.int .i64 p.t, .int .i64 p.f, .slice p.A p.n p.c], .agg #[.int .i64 q.t, .int .i64 q.f, .slice q.A q.n q.c]] w fun e w' => e = .returned (.int .i64 (p.t - q.t)) ∧ Below w.heap.size w w' := by
  go_enter Try.func55, Try.ntmps55
  go_wp2_with fail
  go_ret
  exact ⟨rfl, ((Below.refl w.heap.size w).alloc (Nat.le_refl _) _).alloc (by simp) _⟩
def Two (b o1 o2 : Nat) (p q : Pd) (W : World) : Prop := PAt W b o1 p ∧ PAt W b o2 q
theorem Two.below {b o1 o2 : Nat} {p q : Pd} {W W' : World} (h : Two b o1 o2 p q W) (hb : Below W.heap.size W W') : Two b o1 o2 p q W' := ⟨h.1.below hb, h.2.below hb⟩
/-- In order from the k-th on. -/
def OrdF (ps : List Pd) (k : Int) : Prop := ∀ m (h : m + 1 < ps.length), k ≤ (m : Int) → (ps[m]).t ≤ (ps[m + 1]).t

set_option maxRecDepth 100000 in
set_option maxHeartbeats 1000000 in
theorem sorted_any (A : Option Addr) (n c : Nat) (ps : List Pd) (w : World) (h : PL w A n c ps) (hn : n ≤ 1000) (hd : ∀ p ∈ ps, 0 ≤ p.t ∧ p.t ≤ 1099511627776) :
    Calls Try.prog 54 #[.slice A n c, .func (.func 55) #[] #[]] w fun e w' => e = .returned (.bool (ordP (pks ps))) ∧ Below w.heap.size w w' := by
  have HP := Lib.hid h
  have HD := Lib.hid hd
  have HL := Lib.hid h.len
  clear hd h
  have hn0 : (n : Int) ≤ 1000 := by omega
  clear hn
  have hnn : (0 : Int) ≤ n := by omega
  have HO : Hid (ordP (pks ps) = true ↔ OrdF ps 0) := Lib.hid (by
    rw [ordP_iff]
    constructor
    · intro h m hm _
      have := h m (by simpa [pks] using hm)
      simpa [pks, Pd.pk] using this
    · intro h m hm
      have := h m (by simpa [pks] using hm) (by omega)
      simpa [pks, Pd.pk] using this)
  go_enter Try.func54, Try.ntmps54
  go_wp2_with fail
  go_loopw [5] (fun ii wr => ∃ x : Int, -1 ≤ x ∧ x < n ∧ ii = .int .i64 x ∧ Hid (OrdF ps x) ∧ Hid (Below w.heap.size w wr)) (fun ii _ => (intOf ii + 1).toNat)
  case atStart => exact ⟨(n : Int) - 1, by omega, by omega, rfl, Lib.hid (fun m h1 h2 => by have := HL.out; omega), Lib.hid (Below.refl _ _)⟩
  case round =>
    obtain ⟨x, hx0, hx1, rfl, HF, HB⟩ := hrel
    by_cases hlt : 0 < x
    · obtain ⟨k, rfl⟩ := Int.eq_ofNat_of_zero_le (show 0 ≤ x by omega)
      have hk1 : k < ps.length := by rw [HL.out]; omega
      have hk2 : k - 1 < ps.length := by omega
      have hk0 : 1 ≤ (k : Int) := by omega
      obtain ⟨b, o, rfl, hat⟩ := HP.out.at (by omega)
      have hd1 := HD.out _ (List.getElem_mem hk1)
      have hd2 := HD.out _ (List.getElem_mem hk2)
      have hT : Two b (o + k * 3) (o + (k - 1) * 3) ps[k] ps[k - 1] w := ⟨hat k hk1, hat (k - 1) hk2⟩
      have HST : Hid ((ps[k - 1]).t ≤ (ps[k]).t → OrdF ps ((k : Int) - 1)) := Lib.hid fun hle m hm hkm => by
        by_cases hq : (k : Int) ≤ m
        · exact HF.out m hm hq
        · have : m = k - 1 := by omega
          subst this
          have e : k - 1 + 1 = k := by omega
          simp only [e]
          exact hle
      have HNO : Hid (¬ (ps[k - 1]).t ≤ (ps[k]).t → ordP (pks ps) = false) := Lib.hid fun hle => by
        rcases Bool.eq_false_or_eq_true (ordP (pks ps)) with h | h
        · have := HO.out.1 h (k - 1) (by omega) (by omega)
          have e : k - 1 + 1 = k := by omega
          simp only [e] at this
          exact absurd this hle
        · exact h
      generalize ps[k] = p at *
      generalize ps[k - 1] = q at *
      have C55 := Lib.hid (fun W => cmp_any p q W hd1.1 hd1.2 hd2.1 hd2.2)
      have HS2 := Lib.hid (hT.below (HB.out.trans (below_drew (Below.refl _ wr) |>.mono HB.out.size)))
      have HX := Lib.hid (And.intro hk0 hx1)
      have HWR : Hid (IntKind.i64.wrap ((k : Int) - 1) = (k : Int) - 1) := Lib.hid (by rw [IntKind.wrap_i64]; omega)
      obtain ⟨hp0, hp1⟩ := hd1
      obtain ⟨hq0, hq1⟩ := hd2
      clear hat hT hk1 hk2
      obtain ⟨wo, rfl⟩ : ∃ wo : World, wo = wr := ⟨_, rfl⟩
      go_upto_region 4 with fail
      refine wp_region_G (S0 := (Two b (o + k * 3) (o + (k - 1) * 3) p q)) (S1 := (Two b (o + k * 3) (o + (k - 1) * 3) p q)) (c := 99) (by kernel_rfl) ?_
      have hHeld := HS2.out
      have h01 := (fun (W : World) (h : (Two b (o + k * 3) (o + (k - 1) * 3) p q) W) => h)
      refine wpG_takeB (i := 0) (oi := ⟨some 13, _, _, _, _, _⟩) (v := .func (.func 55) #[] #[]) rfl (by kernel_rfl) (by kernel_rfl) (by kernel_rfl) (by decide) (fun _ _ _ h => h) h01 rfl hHeld (Or.inl ⟨by rfl, ?_⟩) ?_
      · (intro W9 hSw; obtain ⟨⟨v1, v2, v3⟩, v4, v5, v6⟩ := hSw; go_simp; (try (first | with_reducible rfl | rfl | (simp; done) | (exact HWR.out) | (intro h; have := HX.out; omega))))
      try simp only [Act.put, List.setIfInBounds_toArray, List.set_cons_zero, List.set_cons_succ]
      refine wpG_takeB (i := 1) (oi := ⟨some 14, _, _, _, _, _⟩) (v := .slice (some ⟨b, o, none⟩) n c) rfl (by kernel_rfl) (by kernel_rfl) (by kernel_rfl) (by decide) (fun _ _ _ h => h) h01 rfl hHeld (Or.inl ⟨by rfl, ?_⟩) ?_
      · (intro W9 hSw; obtain ⟨⟨v1, v2, v3⟩, v4, v5, v6⟩ := hSw; go_simp; (try (first | with_reducible rfl | rfl | (simp; done) | (exact HWR.out) | (intro h; have := HX.out; omega))))
      try simp only [Act.put, List.setIfInBounds_toArray, List.set_cons_zero, List.set_cons_succ]
      refine wpG_takeB (i := 2) (oi := ⟨some 15, _, _, _, _, _⟩) (v := .int .i64 (k : Int)) rfl (by kernel_rfl) (by kernel_rfl) (by kernel_rfl) (by decide) (fun _ _ _ h => h) h01 rfl hHeld (Or.inl ⟨by rfl, ?_⟩) ?_
      · (intro W9 hSw; obtain ⟨⟨v1, v2, v3⟩, v4, v5, v6⟩ := hSw; go_simp; (try (first | with_reducible rfl | rfl | (simp; done) | (exact HWR.out) | (intro h; have := HX.out; omega))))
      try simp only [Act.put, List.setIfInBounds_toArray, List.set_cons_zero, List.set_cons_succ]
      refine wpG_takeB (i := 3) (oi := ⟨some 16, _, _, _, _, _⟩) (v := .pointer (some ⟨b, o + k * 3, none⟩)) rfl (by kernel_rfl) (by kernel_rfl) (by kernel_rfl) (by decide) (fun _ _ _ h => h) h01 rfl hHeld (Or.inl ⟨by rfl, ?_⟩) ?_
      · (intro W9 hSw; obtain ⟨⟨v1, v2, v3⟩, v4, v5, v6⟩ := hSw; go_simp; (try (first | with_reducible rfl | rfl | (simp; done) | (exact HWR.out) | (intro h; have := HX.out; omega))))
      try simp only [Act.put, List.setIfInBounds_toArray, List.set_cons_zero, List.set_cons_succ]
      refine wpG_takeB (i := 4) (oi := ⟨some 17, _, _, _, _, _⟩) (v := .agg #[.int .i64 p.t, .int .i64 p.f, .slice p.A p.n p.c]) rfl (by kernel_rfl) (by kernel_rfl) (by kernel_rfl) (by decide) (fun _ _ _ h => h) h01 rfl hHeld (Or.inl ⟨by rfl, ?_⟩) ?_
      · (intro W9 hSw; obtain ⟨⟨v1, v2, v3⟩, v4, v5, v6⟩ := hSw; go_simp; (try (first | with_reducible rfl | rfl | (simp; done) | (exact HWR.out) | (intro h; have := HX.out; omega))))
      try simp only [Act.put, List.setIfInBounds_toArray, List.set_cons_zero, List.set_cons_succ]
      refine wpG_takeB (i := 5) (oi := ⟨some 18, _, _, _, _, _⟩) (v := .slice (some ⟨b, o, none⟩) n c) rfl (by kernel_rfl) (by kernel_rfl) (by kernel_rfl) (by decide) (fun _ _ _ h => h) h01 rfl hHeld (Or.inl ⟨by rfl, ?_⟩) ?_
      · (intro W9 hSw; obtain ⟨⟨v1, v2, v3⟩, v4, v5, v6⟩ := hSw; go_simp; (try (first | with_reducible rfl | rfl | (simp; done) | (exact HWR.out) | (intro h; have := HX.out; omega))))
      try simp only [Act.put, List.setIfInBounds_toArray, List.set_cons_zero, List.set_cons_succ]
      refine wpG_takeB (i := 6) (oi := ⟨some 19, _, _, _, _, _⟩) (v := .int .i64 (k : Int)) rfl (by kernel_rfl) (by kernel_rfl) (by kernel_rfl) (by decide) (fun _ _ _ h => h) h01 rfl hHeld (Or.inl ⟨by rfl, ?_⟩) ?_
      · (intro W9 hSw; obtain ⟨⟨v1, v2, v3⟩, v4, v5, v6⟩ := hSw; go_simp; (try (first | with_reducible rfl | rfl | (simp; done) | (exact HWR.out) | (intro h; have := HX.out; omega))))
      try simp only [Act.put, List.setIfInBounds_toArray, List.set_cons_zero, List.set_cons_succ]
      refine wpG_takeB (i := 7) (oi := ⟨some 20, _, _, _, _, _⟩) (v := .int .i64 ((k : Int) - 1)) rfl (by kernel_rfl) (by kernel_rfl) (by kernel_rfl) (by decide) (fun _ _ _ h => h) h01 rfl hHeld (Or.inl ⟨by rfl, ?_⟩) ?_
      · (intro W9 hSw; obtain ⟨⟨v1, v2, v3⟩, v4, v5, v6⟩ := hSw; go_simp; (try (first | with_reducible rfl | rfl | (simp; done) | (exact HWR.out) | (intro h; have := HX.out; omega))))
      try simp only [Act.put, List.setIfInBounds_toArray, List.set_cons_zero, List.set_cons_succ]
      refine wpG_takeB (i := 8) (oi := ⟨some 21, _, _, _, _, _⟩) (v := .pointer (some ⟨b, o + (k - 1) * 3, none⟩)) rfl (by kernel_rfl) (by kernel_rfl) (by kernel_rfl) (by decide) (fun _ _ _ h => h) h01 rfl hHeld (Or.inl ⟨by rfl, ?_⟩) ?_
      · (intro W9 hSw; obtain ⟨⟨v1, v2, v3⟩, v4, v5, v6⟩ := hSw; go_simp; (try (first | with_reducible rfl | rfl | (simp; done) | (exact HWR.out) | (intro h; have := HX.out; omega))))
      try simp only [Act.put, List.setIfInBounds_toArray, List.set_cons_zero, List.set_cons_succ]
      refine wpG_takeB (i := 9) (oi := ⟨some 22, _, _, _, _, _⟩) (v := .agg #[.int .i64 q.t, .int .i64 q.f, .slice q.A q.n q.c]) rfl (by kernel_rfl) (by kernel_rfl) (by kernel_rfl) (by decide) (fun _ _ _ h => h) h01 rfl hHeld (Or.inl ⟨by rfl, ?_⟩) ?_
      · (intro W9 hSw; obtain ⟨⟨v1, v2, v3⟩, v4, v5, v6⟩ := hSw; go_simp; (try (first | with_reducible rfl | rfl | (simp; done) | (exact HWR.out) | (intro h; have := HX.out; omega))))
      try simp only [Act.put, List.setIfInBounds_toArray, List.set_cons_zero, List.set_cons_succ]
      refine wpG_oneB (i := 10) (o := ⟨some 23, _, _, _, _, _⟩) (by kernel_rfl) rfl rfl (fun K hK => ?_)
      go_simp
      (with_reducible refine (C55.out _).mono ?_); rintro e w8 ⟨rfl, b8⟩
      have HB8 := Lib.hid b8
      clear b8
      refine hK.out _ _ (HS2.out.below HB8.out) (fun hHeld => ?_)
      clear hK K
      try simp only [Act.put, List.setIfInBounds_toArray, List.set_cons_zero, List.set_cons_succ]
      refine wpG_takeB (i := 11) (oi := ⟨some 24, _, _, _, _, _⟩) (v := .bool (decide (p.t - q.t < 0))) rfl (by kernel_rfl) (by kernel_rfl) (by kernel_rfl) (by decide) (fun _ _ _ h => h) h01 rfl hHeld (Or.inl ⟨by rfl, ?_⟩) ?_
      · (intro W9 hSw; obtain ⟨⟨v1, v2, v3⟩, v4, v5, v6⟩ := hSw; go_simp; (try (first | with_reducible rfl | rfl | (simp; done) | (exact HWR.out) | (intro h; have := HX.out; omega))))
      try simp only [Act.put, List.setIfInBounds_toArray, List.set_cons_zero, List.set_cons_succ]
      refine wpG_done (by kernel_rfl) ?_ _
      clear hHeld h01
      have HB9 := Lib.hid (HB.out.trans ((below_drew (Below.refl wo.heap.size wo)).trans HB8.out |>.mono HB.out.size))
      by_cases hle : p.t - q.t < 0
      · rw [decide_eq_true hle]
        have HR := Lib.hid (HNO.out (by omega))
        go_wp2_with fail
        go_ret
        rw [HR.out]
        exact ⟨rfl, HB9.out⟩
      · rw [decide_eq_false hle]
        have HR := Lib.hid (HST.out (by omega))
        go_wp2_with fail
        go_roundw
        case rel => exact ⟨(k : Int) - 1, by omega, by omega, by first | rfl | go_num, HR, HB9⟩
        case measure => simp [intOf] <;> omega
    · have HLE : Hid (ordP (pks ps) = true) := Lib.hid (HO.out.2 fun m hm hkm => HF.out m hm (by omega))
      go_wp2_with fail
      go_ret
      rw [HLE.out]
      exact ⟨rfl, HB.out⟩
end Go.Proofs.Ytgbkoegmoelheaa
