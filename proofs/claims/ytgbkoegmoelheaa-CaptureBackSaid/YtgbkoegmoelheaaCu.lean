/- The reference's Block. -/
import Derived.Test.YtgbkoegmoelheaaCt
namespace Go.Proofs.Ytgbkoegmoelheaa
open Go.RowKit
set_option linter.unusedVariables false
set_option linter.unusedSimpArgs false

theorem zeros_snoc (k : Nat) : (List.replicate k (0 : UInt8)) ++ [0] = List.replicate (k + 1) 0 := by rw [List.replicate_succ']
set_option maxRecDepth 100000 in
set_option maxHeartbeats 4000000 in
theorem rblock_any (A : Option Addr) (n c : Nat) (ps : List Pd) (w : World) (h : PL w A n c ps) (hbad : badAt ps = false) (hfit : fitsP (pks ps) = true) :
    Calls Try.prog 15 #[.slice A n c] w fun e w' => Fresh w (encB (pks ps)) (fun v => v) e w' := by
  have hv2 := h.valid hbad
  have hf := fitsP_iff.1 hfit
  have hlen : (pks ps).length = n := by unfold pks; rw [List.length_map]; exact h.len
  rw [hlen] at hf
  obtain ⟨hn1, hn64, hsz, -⟩ := hf
  have HP := Lib.hid h
  have HV := Lib.hid hv2
  have HL := Lib.hid h.len
  have HLP := Lib.hid hlen
  have HSZ := Lib.hid hsz
  have HN := Lib.hid (And.intro hn1 hn64)
  have hn0 : (n : Int) ≤ 64 := by omega
  obtain ⟨E, hE⟩ : ∃ E, encB (pks ps) = E := ⟨_, rfl⟩
  rw [hE]
  have HEE := Lib.hid hE
  clear h hbad hfit hv2 hlen hn1 hn64 hsz hE
  go_enter Try.func15, Try.ntmps15
  go_wp2_with fail
  go_loopw [3, 4] (fun vv ii wr => ∃ i : Nat, (i : Int) ≤ n ∧ ii = .int .i64 i ∧ Hid (RowW w wr vv (bodyP (pks (ps.take i))))) (fun _ ii _ => n - (intOf ii).toNat)
  case atStart => exact ⟨0, by omega, rfl, Lib.hid (by simpa [bodyP, pks] using ⟨World.ownsRow_nil _ _ 5 1, Below.refl _ _⟩)⟩
  case round =>
    obtain ⟨i, hi, rfl, HR⟩ := hrel
    have hi0 : (0 : Int) ≤ i := by omega
    obtain ⟨wo, rfl⟩ : ∃ wo : World, wo = wr := ⟨_, rfl⟩
    by_cases hlt : (i : Int) < n
    · have hi1 : i < ps.length := by rw [HL.out]; omega
      obtain ⟨b, o, rfl, hat⟩ := HP.out.at (by omega)
      have hpa := hat i hi1
      have hbt := body_take ps i hi1
      have hpv := HV.out _ (List.getElem_mem hi1)
      have hpr := (HP.out.r _ (List.getElem_mem hi1)).r
      have hll : (bodyP (pks (ps.take i))).length ≤ 300000 := by
        rw [bodyP_length]
        have h1 := sizeP_le (ps.take i) 4096 (fun q hq => by have h1 := List.mem_of_mem_take hq; have := HV.out q h1; have := (HP.out.r q h1).r.len; omega)
        have h2 : (ps.take i).length = i := by rw [List.length_take]; omega
        rw [h2] at h1
        have h4 : i * (10 + 4096) ≤ 64 * 4106 := Nat.mul_le_mul (by omega) (Nat.le_refl _)
        omega
      generalize ps[i] = p at *
      obtain ⟨tn, htn⟩ := Int.eq_ofNat_of_zero_le hpv.1
      obtain ⟨fn, hfn⟩ := Int.eq_ofNat_of_zero_le hpv.2.2.1
      have hbt2 : bodyP (pks (ps.take (i + 1))) = bodyP (pks (ps.take i)) ++ (be tn 6 ++ be fn 2 ++ be p.n 2 ++ p.d) := by
        rw [hbt]
        have e1 : p.pk.t.toNat = tn := by show p.t.toNat = tn; rw [htn]; rfl
        have e2 : p.pk.f.toNat = fn := by show p.f.toNat = fn; rw [hfn]; rfl
        have e3 : p.pk.d.length = p.n := hpr.len
        unfold encP
        rw [e1, e2, e3]
        rfl
      have C37a : Hid (∀ W : World, Calls Try.prog 37 #[.int .i64 p.t, .int .i64 6] W fun e w' => Fresh W (be tn 6) (fun v => v) e w') := Lib.hid fun W => htn ▸ rput_any tn 6 W (by omega) (by omega)
      have C37b : Hid (∀ W : World, Calls Try.prog 37 #[.int .i64 p.f, .int .i64 2] W fun e w' => Fresh W (be fn 2) (fun v => v) e w') := Lib.hid fun W => hfn ▸ rput_any fn 2 W (by omega) (by omega)
      have C37c : Hid (∀ W : World, Calls Try.prog 37 #[.int .i64 (p.n : Int), .int .i64 2] W fun e w' => Fresh W (be p.n 2) (fun v => v) e w') := Lib.hid fun W => rput_any p.n 2 W (by omega) (by omega)
      have HPW := Lib.hid (fun (W : World) (hb : Below w.heap.size w W) => hpa.below hb)
      have HPR := Lib.hid (fun (W : World) (hb : Below w.heap.size w W) => hpr.below hb)
      have HBT := Lib.hid hbt2
      obtain ⟨zs, hzs⟩ : ∃ zs, bodyP (pks (ps.take i)) = zs := ⟨_, rfl⟩
      rw [hzs] at HR hll HBT
      obtain ⟨Av, cv, rfl⟩ := HR.out.form
      have HRS := Lib.hid (show RowW w wo.drew (.slice Av zs.length cv) zs from HR.out.over (below_drew (Below.refl _ _)))
      have HZ0 := Lib.hid hll
      have HZL := Lib.hid (show zs.length ≤ 300100 by omega)
      have HPN := Lib.hid (show p.n ≤ 4096 by omega)
      have HI := Lib.hid (And.intro hi0 (And.intro hlt (And.intro hn0 hi)))
      have HIX := Lib.hid (show (0 : Int) ≤ i ∧ (i : Int) < n from ⟨hi0, hlt⟩)
      go_upto_region 5 with fail
      clear hat hbt hbt2 hpv hpr hpa hll htn hfn hi1 hzs hi0 hlt hn0 hi
      refine wp_region_G (S0 := (fun W => PAt W b (o + i * 3) p)) (S1 := (fun W => PAt W b (o + i * 3) p)) (c := 99) (by kernel_rfl) ?_
      have hHeld := (HPW.out _ HRS.out.below)
      have h01 := (fun (W : World) (h : (fun W => PAt W b (o + i * 3) p) W) => h)
      refine wpG_takeB (i := 0) (oi := ⟨some 12, _, _, _, _, _⟩) (v := .slice Av zs.length cv) rfl (by kernel_rfl) (by kernel_rfl) (by kernel_rfl) (by decide) (fun _ _ _ h => h) h01 rfl hHeld (Or.inl ⟨by rfl, ?_⟩) ?_
      · (intro W9 hSw; obtain ⟨v1, v2, v3⟩ := hSw; have w1 := HIX.out; go_simp; (try (first | with_reducible rfl | rfl | (simp; done))))
      try simp only [Act.put, List.setIfInBounds_toArray, List.set_cons_zero, List.set_cons_succ]
      refine wpG_takeB (i := 1) (oi := ⟨some 13, _, _, _, _, _⟩) (v := .slice (some ⟨b, o, none⟩) n c) rfl (by kernel_rfl) (by kernel_rfl) (by kernel_rfl) (by decide) (fun _ _ _ h => h) h01 rfl hHeld (Or.inl ⟨by rfl, ?_⟩) ?_
      · (intro W9 hSw; obtain ⟨v1, v2, v3⟩ := hSw; have w1 := HIX.out; go_simp; (try (first | with_reducible rfl | rfl | (simp; done))))
      try simp only [Act.put, List.setIfInBounds_toArray, List.set_cons_zero, List.set_cons_succ]
      refine wpG_takeB (i := 2) (oi := ⟨some 14, _, _, _, _, _⟩) (v := .int .i64 (i : Int)) rfl (by kernel_rfl) (by kernel_rfl) (by kernel_rfl) (by decide) (fun _ _ _ h => h) h01 rfl hHeld (Or.inl ⟨by rfl, ?_⟩) ?_
      · (intro W9 hSw; obtain ⟨v1, v2, v3⟩ := hSw; have w1 := HIX.out; go_simp; (try (first | with_reducible rfl | rfl | (simp; done))))
      try simp only [Act.put, List.setIfInBounds_toArray, List.set_cons_zero, List.set_cons_succ]
      refine wpG_takeB (i := 3) (oi := ⟨some 15, _, _, _, _, _⟩) (v := .pointer (some ⟨b, o + i * 3, none⟩)) rfl (by kernel_rfl) (by kernel_rfl) (by kernel_rfl) (by decide) (fun _ _ _ h => h) h01 rfl hHeld (Or.inl ⟨by rfl, ?_⟩) ?_
      · (intro W9 hSw; obtain ⟨v1, v2, v3⟩ := hSw; have w1 := HIX.out; go_simp; (try (first | with_reducible rfl | rfl | (simp; done))))
      try simp only [Act.put, List.setIfInBounds_toArray, List.set_cons_zero, List.set_cons_succ]
      refine wpG_takeB (i := 4) (oi := ⟨some 16, _, _, _, _, _⟩) (v := .pointer (some ⟨b, o + i * 3, none⟩)) rfl (by kernel_rfl) (by kernel_rfl) (by kernel_rfl) (by decide) (fun _ _ _ h => h) h01 rfl hHeld (Or.inl ⟨by rfl, ?_⟩) ?_
      · (intro W9 hSw; obtain ⟨v1, v2, v3⟩ := hSw; have w1 := HIX.out; go_simp; (try (first | with_reducible rfl | rfl | (simp; done))))
      try simp only [Act.put, List.setIfInBounds_toArray, List.set_cons_zero, List.set_cons_succ]
      refine wpG_takeB (i := 5) (oi := ⟨some 17, _, _, _, _, _⟩) (v := .int .i64 p.t) rfl (by kernel_rfl) (by kernel_rfl) (by kernel_rfl) (by decide) (fun _ _ _ h => h) h01 rfl hHeld (Or.inl ⟨by rfl, ?_⟩) ?_
      · (intro W9 hSw; obtain ⟨v1, v2, v3⟩ := hSw; have w1 := HIX.out; go_simp; (try (first | with_reducible rfl | rfl | (simp; done))))
      try simp only [Act.put, List.setIfInBounds_toArray, List.set_cons_zero, List.set_cons_succ]
      refine wpG_takeB (i := 8) (oi := ⟨some 20, _, _, _, _, _⟩) (v := .slice (some ⟨b, o, none⟩) n c) rfl (by kernel_rfl) (by kernel_rfl) (by kernel_rfl) (by decide) (fun _ _ _ h => h) h01 rfl hHeld (Or.inl ⟨by rfl, ?_⟩) ?_
      · (intro W9 hSw; obtain ⟨v1, v2, v3⟩ := hSw; have w1 := HIX.out; go_simp; (try (first | with_reducible rfl | rfl | (simp; done))))
      try simp only [Act.put, List.setIfInBounds_toArray, List.set_cons_zero, List.set_cons_succ]
      refine wpG_takeB (i := 9) (oi := ⟨some 21, _, _, _, _, _⟩) (v := .int .i64 (i : Int)) rfl (by kernel_rfl) (by kernel_rfl) (by kernel_rfl) (by decide) (fun _ _ _ h => h) h01 rfl hHeld (Or.inl ⟨by rfl, ?_⟩) ?_
      · (intro W9 hSw; obtain ⟨v1, v2, v3⟩ := hSw; have w1 := HIX.out; go_simp; (try (first | with_reducible rfl | rfl | (simp; done))))
      try simp only [Act.put, List.setIfInBounds_toArray, List.set_cons_zero, List.set_cons_succ]
      refine wpG_takeB (i := 10) (oi := ⟨some 22, _, _, _, _, _⟩) (v := .pointer (some ⟨b, o + i * 3, none⟩)) rfl (by kernel_rfl) (by kernel_rfl) (by kernel_rfl) (by decide) (fun _ _ _ h => h) h01 rfl hHeld (Or.inl ⟨by rfl, ?_⟩) ?_
      · (intro W9 hSw; obtain ⟨v1, v2, v3⟩ := hSw; have w1 := HIX.out; go_simp; (try (first | with_reducible rfl | rfl | (simp; done))))
      try simp only [Act.put, List.setIfInBounds_toArray, List.set_cons_zero, List.set_cons_succ]
      refine wpG_takeB (i := 11) (oi := ⟨some 23, _, _, _, _, _⟩) (v := .pointer (some ⟨b, o + i * 3 + 1, none⟩)) rfl (by kernel_rfl) (by kernel_rfl) (by kernel_rfl) (by decide) (fun _ _ _ h => h) h01 rfl hHeld (Or.inl ⟨by rfl, ?_⟩) ?_
      · (intro W9 hSw; obtain ⟨v1, v2, v3⟩ := hSw; have w1 := HIX.out; go_simp; (try (first | with_reducible rfl | rfl | (simp; done))))
      try simp only [Act.put, List.setIfInBounds_toArray, List.set_cons_zero, List.set_cons_succ]
      refine wpG_takeB (i := 12) (oi := ⟨some 24, _, _, _, _, _⟩) (v := .int .i64 p.f) rfl (by kernel_rfl) (by kernel_rfl) (by kernel_rfl) (by decide) (fun _ _ _ h => h) h01 rfl hHeld (Or.inl ⟨by rfl, ?_⟩) ?_
      · (intro W9 hSw; obtain ⟨v1, v2, v3⟩ := hSw; have w1 := HIX.out; go_simp; (try (first | with_reducible rfl | rfl | (simp; done))))
      try simp only [Act.put, List.setIfInBounds_toArray, List.set_cons_zero, List.set_cons_succ]
      refine wpG_takeB (i := 15) (oi := ⟨some 27, _, _, _, _, _⟩) (v := .slice (some ⟨b, o, none⟩) n c) rfl (by kernel_rfl) (by kernel_rfl) (by kernel_rfl) (by decide) (fun _ _ _ h => h) h01 rfl hHeld (Or.inl ⟨by rfl, ?_⟩) ?_
      · (intro W9 hSw; obtain ⟨v1, v2, v3⟩ := hSw; have w1 := HIX.out; go_simp; (try (first | with_reducible rfl | rfl | (simp; done))))
      try simp only [Act.put, List.setIfInBounds_toArray, List.set_cons_zero, List.set_cons_succ]
      refine wpG_takeB (i := 16) (oi := ⟨some 28, _, _, _, _, _⟩) (v := .int .i64 (i : Int)) rfl (by kernel_rfl) (by kernel_rfl) (by kernel_rfl) (by decide) (fun _ _ _ h => h) h01 rfl hHeld (Or.inl ⟨by rfl, ?_⟩) ?_
      · (intro W9 hSw; obtain ⟨v1, v2, v3⟩ := hSw; have w1 := HIX.out; go_simp; (try (first | with_reducible rfl | rfl | (simp; done))))
      try simp only [Act.put, List.setIfInBounds_toArray, List.set_cons_zero, List.set_cons_succ]
      refine wpG_takeB (i := 17) (oi := ⟨some 29, _, _, _, _, _⟩) (v := .pointer (some ⟨b, o + i * 3, none⟩)) rfl (by kernel_rfl) (by kernel_rfl) (by kernel_rfl) (by decide) (fun _ _ _ h => h) h01 rfl hHeld (Or.inl ⟨by rfl, ?_⟩) ?_
      · (intro W9 hSw; obtain ⟨v1, v2, v3⟩ := hSw; have w1 := HIX.out; go_simp; (try (first | with_reducible rfl | rfl | (simp; done))))
      try simp only [Act.put, List.setIfInBounds_toArray, List.set_cons_zero, List.set_cons_succ]
      refine wpG_takeB (i := 18) (oi := ⟨some 30, _, _, _, _, _⟩) (v := .pointer (some ⟨b, o + i * 3 + 2, none⟩)) rfl (by kernel_rfl) (by kernel_rfl) (by kernel_rfl) (by decide) (fun _ _ _ h => h) h01 rfl hHeld (Or.inl ⟨by rfl, ?_⟩) ?_
      · (intro W9 hSw; obtain ⟨v1, v2, v3⟩ := hSw; have w1 := HIX.out; go_simp; (try (first | with_reducible rfl | rfl | (simp; done))))
      try simp only [Act.put, List.setIfInBounds_toArray, List.set_cons_zero, List.set_cons_succ]
      refine wpG_takeB (i := 19) (oi := ⟨some 31, _, _, _, _, _⟩) (v := .slice p.A p.n p.c) rfl (by kernel_rfl) (by kernel_rfl) (by kernel_rfl) (by decide) (fun _ _ _ h => h) h01 rfl hHeld (Or.inl ⟨by rfl, ?_⟩) ?_
      · (intro W9 hSw; obtain ⟨v1, v2, v3⟩ := hSw; have w1 := HIX.out; go_simp; (try (first | with_reducible rfl | rfl | (simp; done))))
      try simp only [Act.put, List.setIfInBounds_toArray, List.set_cons_zero, List.set_cons_succ]
      refine wpG_takeB (i := 20) (oi := ⟨some 32, _, _, _, _, _⟩) (v := .int .i64 (p.n : Int)) rfl (by kernel_rfl) (by kernel_rfl) (by kernel_rfl) (by decide) (fun _ _ _ h => h) h01 rfl hHeld (Or.inl ⟨by rfl, ?_⟩) ?_
      · (intro W9 hSw; obtain ⟨v1, v2, v3⟩ := hSw; have w1 := HIX.out; go_simp; (try (first | with_reducible rfl | rfl | (simp; done))))
      try simp only [Act.put, List.setIfInBounds_toArray, List.set_cons_zero, List.set_cons_succ]
      refine wpG_oneB (i := 6) (o := ⟨some 18, _, _, _, _, _⟩) (by kernel_rfl) rfl rfl (fun K hK => ?_)
      go_simp
      (with_reducible refine (C37a.out _).mono ?_); rintro e w6 ⟨v6, rfl, o6, b6⟩
      obtain ⟨A6, c6, rfl, -⟩ := own_form o6
      have HO6 := Lib.hid (holds_own o6)
      have HR6 := Lib.hid (HRS.out.over b6)
      clear o6 b6
      refine hK.out _ _ (HPW.out _ HR6.out.below) (fun hHeld => ?_)
      clear hK K
      try simp only [Act.put, List.setIfInBounds_toArray, List.set_cons_zero, List.set_cons_succ]
      refine wpG_oneB (i := 7) (o := ⟨some 19, _, _, _, _, _⟩) (by kernel_rfl) rfl rfl (fun K hK => ?_)
      refine step_app_own (base := w.heap.size) (n := zs.length) (m := (be tn 6).length) (xs := zs.map Go.Proofs.Ytgbkoegmoelheaa.u8) (news := (be tn 6).map Go.Proofs.Ytgbkoegmoelheaa.u8) rfl (.tmp 12) (.tmp 18) 23 rfl el22 rfl HR6.out.own rfl HO6.out (u8_one _) (by have := HZL.out; have := be_length; unfold maxLen; simp only [be_length]; omega) (by have := HZL.out; simp only [be_length]; omega) HR6.out.below.size ?_
      intro v7 w7 hown hg hat
      obtain ⟨z7, hz7⟩ : ∃ z7, zs ++ be tn 6 = z7 := ⟨_, rfl⟩
      have HR7 := Lib.hid (show RowW w w7 v7 z7 from hz7 ▸ ⟨by rw [List.length_append, List.map_append]; exact hown, below_own HR6.out.below HR6.out.below.size HR6.out.own hg⟩)
      have Hz7 := Lib.hid hz7
      have HZL := Lib.hid (show z7.length ≤ 300100 by rw [← hz7, List.length_append, be_length]; have := HZ0.out; omega)
      obtain ⟨A7, c7, rfl⟩ := HR7.out.form
      clear hown hg hat hz7
      refine hK.out _ _ (HPW.out _ HR7.out.below) (fun hHeld => ?_)
      clear hK K
      try simp only [Act.put, List.setIfInBounds_toArray, List.set_cons_zero, List.set_cons_succ]
      refine wpG_oneB (i := 13) (o := ⟨some 25, _, _, _, _, _⟩) (by kernel_rfl) rfl rfl (fun K hK => ?_)
      go_simp
      (with_reducible refine (C37b.out _).mono ?_); rintro e w13 ⟨v13, rfl, o13, b13⟩
      obtain ⟨A13, c13, rfl, -⟩ := own_form o13
      have HO13 := Lib.hid (holds_own o13)
      have HR13 := Lib.hid (HR7.out.over b13)
      clear o13 b13
      refine hK.out _ _ (HPW.out _ HR13.out.below) (fun hHeld => ?_)
      clear hK K
      try simp only [Act.put, List.setIfInBounds_toArray, List.set_cons_zero, List.set_cons_succ]
      refine wpG_oneB (i := 14) (o := ⟨some 26, _, _, _, _, _⟩) (by kernel_rfl) rfl rfl (fun K hK => ?_)
      refine step_app_own (base := w.heap.size) (n := z7.length) (m := (be fn 2).length) (xs := z7.map Go.Proofs.Ytgbkoegmoelheaa.u8) (news := (be fn 2).map Go.Proofs.Ytgbkoegmoelheaa.u8) rfl (.tmp 19) (.tmp 25) 23 rfl el22 rfl HR13.out.own rfl HO13.out (u8_one _) (by have := HZL.out; have := be_length; unfold maxLen; simp only [be_length]; omega) (by have := HZL.out; simp only [be_length]; omega) HR13.out.below.size ?_
      intro v14 w14 hown hg hat
      obtain ⟨z14, hz14⟩ : ∃ z14, z7 ++ be fn 2 = z14 := ⟨_, rfl⟩
      have HR14 := Lib.hid (show RowW w w14 v14 z14 from hz14 ▸ ⟨by rw [List.length_append, List.map_append]; exact hown, below_own HR13.out.below HR13.out.below.size HR13.out.own hg⟩)
      have Hz14 := Lib.hid hz14
      have HZL := Lib.hid (show z14.length ≤ 300100 by rw [← hz14, List.length_append, be_length]; have := HZ0.out; have := congrArg List.length Hz7.out; rw [List.length_append, be_length] at this; omega)
      obtain ⟨A14, c14, rfl⟩ := HR14.out.form
      clear hown hg hat hz14
      refine hK.out _ _ (HPW.out _ HR14.out.below) (fun hHeld => ?_)
      clear hK K
      try simp only [Act.put, List.setIfInBounds_toArray, List.set_cons_zero, List.set_cons_succ]
      refine wpG_oneB (i := 21) (o := ⟨some 33, _, _, _, _, _⟩) (by kernel_rfl) rfl rfl (fun K hK => ?_)
      go_simp
      (with_reducible refine (C37c.out _).mono ?_); rintro e w21 ⟨v21, rfl, o21, b21⟩
      obtain ⟨A21, c21, rfl, -⟩ := own_form o21
      have HO21 := Lib.hid (holds_own o21)
      have HR21 := Lib.hid (HR14.out.over b21)
      clear o21 b21
      refine hK.out _ _ (HPW.out _ HR21.out.below) (fun hHeld => ?_)
      clear hK K
      try simp only [Act.put, List.setIfInBounds_toArray, List.set_cons_zero, List.set_cons_succ]
      refine wpG_oneB (i := 22) (o := ⟨some 34, _, _, _, _, _⟩) (by kernel_rfl) rfl rfl (fun K hK => ?_)
      refine step_app_own (base := w.heap.size) (n := z14.length) (m := (be p.n 2).length) (xs := z14.map Go.Proofs.Ytgbkoegmoelheaa.u8) (news := (be p.n 2).map Go.Proofs.Ytgbkoegmoelheaa.u8) rfl (.tmp 26) (.tmp 33) 23 rfl el22 rfl HR21.out.own rfl HO21.out (u8_one _) (by have := HZL.out; have := be_length; unfold maxLen; simp only [be_length]; omega) (by have := HZL.out; simp only [be_length]; omega) HR21.out.below.size ?_
      intro v22 w22 hown hg hat
      obtain ⟨z22, hz22⟩ : ∃ z22, z14 ++ be p.n 2 = z22 := ⟨_, rfl⟩
      have HR22 := Lib.hid (show RowW w w22 v22 z22 from hz22 ▸ ⟨by rw [List.length_append, List.map_append]; exact hown, below_own HR21.out.below HR21.out.below.size HR21.out.own hg⟩)
      have Hz22 := Lib.hid hz22
      have HZL := Lib.hid (show z22.length ≤ 300100 by rw [← hz22, List.length_append, be_length]; have := HZ0.out; have := congrArg List.length Hz14.out; rw [List.length_append, be_length] at this; have := congrArg List.length Hz7.out; rw [List.length_append, be_length] at this; omega)
      obtain ⟨A22, c22, rfl⟩ := HR22.out.form
      clear hown hg hat hz22
      refine hK.out _ _ (HPW.out _ HR22.out.below) (fun hHeld => ?_)
      clear hK K
      try simp only [Act.put, List.setIfInBounds_toArray, List.set_cons_zero, List.set_cons_succ]
      refine wpG_takeB (i := 23) (oi := ⟨some 3, _, _, _, _, _⟩) (v := .slice A22 z22.length c22) rfl (by kernel_rfl) (by kernel_rfl) (by kernel_rfl) (by decide) (fun _ _ _ h => h) h01 rfl hHeld (Or.inl ⟨by rfl, ?_⟩) ?_
      · (intro W9 hSw; obtain ⟨v1, v2, v3⟩ := hSw; have w1 := HIX.out; go_simp; (try (first | with_reducible rfl | rfl | (simp; done))))
      try simp only [Act.put, List.setIfInBounds_toArray, List.set_cons_zero, List.set_cons_succ]
      refine wpG_done (by kernel_rfl) ?_ _
      clear hHeld h01
      have q22 := (HPW.out _ HR22.out.below).h2
      obtain ⟨hi0, hlt, hn0, hi⟩ := HI.out
      go_wp2_with (at_builtin; go_must (refine wpList_app_own (base := w.heap.size) (n := z22.length) (m := p.n) (xs := z22.map Go.Proofs.Ytgbkoegmoelheaa.u8) (news := p.d.map Go.Proofs.Ytgbkoegmoelheaa.u8) rfl (.tmp 35) (.tmp 40) 23 rfl el22 rfl HR22.out.own rfl (HPR.out _ HR22.out.below).h (u8_one _) (by have := HZL.out; have := HPN.out; unfold maxLen; omega) (by have := HZL.out; have := HPN.out; omega) HR22.out.below.size ?_; intro v41 w41 hown hg hat; have HR41 := Lib.hid (show RowW w w41 v41 (z22 ++ p.d) from ⟨by rw [List.length_append, List.map_append, (HPR.out _ HR22.out.below).len]; exact hown, below_own HR22.out.below HR22.out.below.size HR22.out.own hg⟩); clear hown hg hat))
      go_roundw
      case rel => exact ⟨i + 1, by omega, by go_num, by rw [HBT.out, ← List.append_assoc, ← List.append_assoc, ← List.append_assoc, Hz7.out, Hz14.out, Hz22.out]; exact HR41⟩
      case measure => simp [intOf]; omega
    · have HLE := Lib.hid (show ps.take i = ps by rw [List.take_of_length_le]; rw [HL.out]; omega)
      rw [HLE.out] at HR
      clear HLE
      obtain ⟨sz, hsz⟩ : ∃ sz, sizeP (pks ps) = sz := ⟨_, rfl⟩
      obtain ⟨bd, hbd⟩ : ∃ bd, bodyP (pks ps) = bd := ⟨_, rfl⟩
      have hbl : bd.length = sz := by rw [← hbd, bodyP_length, hsz]
      have hHD : headP (pks ps) = magicB ++ be n 1 ++ be sz 2 ++ bd := by unfold headP; rw [HLP.out, hsz, hbd]
      have hEN : encB (pks ps) = (headP (pks ps) ++ List.replicate (padN (7 + sz) - (7 + sz)) 0) ++ be (adlN (headP (pks ps) ++ List.replicate (padN (7 + sz) - (7 + sz)) 0)) 4 := by unfold encB preP; rw [hsz]
      rw [hHD] at hEN
      have hsz2 := HSZ.out
      rw [hsz] at hsz2
      rw [HEE.out] at hEN
      have HEN := Lib.hid hEN
      rw [hbd] at HR
      obtain ⟨A3, c3, rfl⟩ := HR.out.form
      rw [hbl] at HR ⊢
      have HRB := Lib.hid (show RB wo A3 sz c3 bd from own_RB3 (by have := HR.out.own; rw [hbl] at this; exact this))
      have HS8 := Lib.hid hsz2
      have HBW := Lib.hid HR.out.below
      have hcv := Lib.run_convert_bytes_const (P := Try.prog) wo 23 5 #[.int .u8 80, .int .u8 66, .int .u8 75, .int .u8 49] 4 4 Try.underlying23 Try.underlying5
      have hby : (n : Int) % 256 = n := by have := HN.out; omega
      have HRL := Lib.hid (RB.litM wo magicB 4 4 5 #[.int .u8 80, .int .u8 66, .int .u8 75, .int .u8 49] rfl rfl (by omega))
      have HB1 : Hid ([Value.int .u8 (n : Int)] = (be n 1).map Go.Proofs.Ytgbkoegmoelheaa.u8) := Lib.hid (by
        have := HN.out
        simp [be, Go.Proofs.Ytgbkoegmoelheaa.u8]
        omega)
      have C37d : Hid (∀ W : World, Calls Try.prog 37 #[.int .i64 (sz : Int), .int .i64 2] W fun e w' => Fresh W (be sz 2) (fun v => v) e w') := Lib.hid fun W => rput_any sz 2 W (by omega) (by omega)
      clear hsz hbd hbl hHD hEN hsz2 HR
      go_wp2_with (at_builtin; go_must (refine wpList_app_grows (n := 4) (m := 1) (xs := magicB.map Go.Proofs.Ytgbkoegmoelheaa.u8) (news := [.int .u8 (n : Int)]) rfl (.tmp 43) (.tmp 47) 23 rfl el22 rfl (HRL.out.h.alloc _) (fun e => by cases e) rfl (Holds.one1 _ _ _ _) (by simp [Value.oneCell']) (by omega) (by omega) (by unfold maxLen; omega) (by omega) ?_; intro v48 w48 hown hg; refine Hid.out ?_))
      rw [HB1.out] at hown
      obtain ⟨o1, ho1⟩ : ∃ o1 : List UInt8, magicB ++ be n 1 = o1 := ⟨_, rfl⟩
      have HL1 := Lib.hid (show o1.length = 5 by rw [← ho1]; simp [magicB, be_length])
      have HO1 := Lib.hid ho1
      clear ho1
      have HR48 := Lib.hid (show RowW wo w48 v48 o1 from HO1.out ▸ ⟨by rw [List.length_append, be_length, List.map_append]; exact own_base hown (by simp; omega), ((((Below.refl wo.heap.size wo).alloc (Nat.le_refl _) _).alloc (by simp) _).grown hg (by simp; omega) (fun k hk => by cases hk))⟩)
      obtain ⟨A48, c48, rfl⟩ := HR48.out.form
      refine Lib.hid ?_
      clear hown hg hcv hby
      go_wp2_with (first | (go_at_call 37; (with_reducible refine (C37d.out _).mono ?_); rintro e w52 ⟨v52, rfl, o52, b52⟩; obtain ⟨A52, c52, rfl, -⟩ := own_form o52; have HO52 := Lib.hid (holds_own o52); have HR52 := Lib.hid (HR48.out.over b52); clear o52 b52; refine Hid.out ?_))
      refine Lib.hid ?_
      go_wp2_with (at_builtin; go_must (refine wpList_app_own (base := wo.heap.size) (n := o1.length) (m := (be sz 2).length) (xs := o1.map Go.Proofs.Ytgbkoegmoelheaa.u8) (news := (be sz 2).map Go.Proofs.Ytgbkoegmoelheaa.u8) rfl (.tmp 49) (.tmp 52) 23 rfl el22 rfl HR52.out.own rfl HO52.out (u8_one _) (by rw [HL1.out, be_length]; decide) (by rw [HL1.out, be_length]; decide) HR52.out.below.size ?_; intro v53 w53 hown hg hat; refine Hid.out ?_))
      obtain ⟨o2, ho2⟩ : ∃ o2 : List UInt8, o1 ++ be sz 2 = o2 := ⟨_, rfl⟩
      have HL2 := Lib.hid (show o2.length = 7 by rw [← ho2, List.length_append, be_length, HL1.out])
      have HO2 := Lib.hid ho2
      have HR53 := Lib.hid (show RowW wo w53 v53 o2 from ho2 ▸ ⟨by rw [List.length_append, List.map_append]; exact hown, below_own HR52.out.below HR52.out.below.size HR52.out.own hg⟩)
      obtain ⟨A53, c53, rfl⟩ := HR53.out.form
      refine Lib.hid ?_
      clear hown hg hat ho2
      have HRB53 := Lib.hid (HRB.out.below HR53.out.below)
      go_wp2_with (at_builtin; go_must (refine wpList_app_own (base := wo.heap.size) (n := o2.length) (m := sz) (xs := o2.map Go.Proofs.Ytgbkoegmoelheaa.u8) (news := bd.map Go.Proofs.Ytgbkoegmoelheaa.u8) rfl (.tmp 53) (.tmp 54) 23 rfl el22 rfl HR53.out.own rfl HRB53.out.h (u8_one _) (by have := HS8.out; have := HL2.out; unfold maxLen; omega) (by have := HS8.out; have := HL2.out; omega) HR53.out.below.size ?_; intro v55 w55 hown hg hat; refine Hid.out ?_))
      obtain ⟨o3, ho3⟩ : ∃ o3 : List UInt8, o2 ++ bd = o3 := ⟨_, rfl⟩
      have hl3 : o3.length = 7 + sz := by rw [← ho3, List.length_append, HL2.out, HRB.out.len]
      have HR55 := Lib.hid (show RowW wo w55 v55 o3 from ho3 ▸ ⟨by rw [List.length_append, List.map_append, HRB.out.len]; exact hown, below_own HR53.out.below HR53.out.below.size HR53.out.own hg⟩)
      have hEN3 : E = (o3 ++ List.replicate (padN (7 + sz) - (7 + sz)) 0) ++ be (adlN (o3 ++ List.replicate (padN (7 + sz) - (7 + sz)) 0)) 4 := by rw [HEN.out, HO1.out, HO2.out, ho3]
      have HEN3 := Lib.hid hEN3
      obtain ⟨P, hP⟩ : ∃ P, padN (7 + sz) = P := ⟨_, rfl⟩
      have hP4 : P % 4 = 0 ∧ 7 + sz ≤ P ∧ P ≤ 7 + sz + 3 := by rw [← hP]; unfold padN; omega
      rw [hP] at HEN3
      have HP4 := Lib.hid hP4
      have HL3 := Lib.hid hl3
      have HSI := Lib.hid HS8.out
      refine Lib.hid ?_
      clear hown hg hat ho3 hl3 hEN3 hP hP4 HEN
      go_wp2_with fail
      go_loopw [5] (fun vv wr => ∃ (m : Nat) (A : Option Addr) (c : Nat), vv = .slice A m c ∧ Hid (7 + sz ≤ m ∧ m ≤ P) ∧ Hid (RowW wo wr vv (o3 ++ List.replicate (m - (7 + sz)) 0))) (fun vv _ => P - (match vv with | .slice _ m _ => m | _ => 0))
      case atStart =>
        obtain ⟨A55, c55, e55⟩ := HR55.out.form
        rw [HL3.out] at e55
        refine ⟨7 + sz, A55, c55, e55, Lib.hid ⟨Nat.le_refl _, HP4.out.2.1⟩, Lib.hid ?_⟩
        rw [Nat.sub_self]
        simpa using HR55.out
      case round =>
        obtain ⟨m, A5, c5, rfl, HM, HR5⟩ := hrel
        have hm0 : (0 : Int) ≤ m := by omega
        have hm1 : (m : Int) ≤ 100000 := by have := HM.out; have := HP4.out; have := HSI.out; omega
        by_cases hmp : m = P
        · have q1 : ((m : Int) % 4 != 0) = false := by have := HP4.out; simp; omega
          have q2 : ((m : Int) % 4 == 0) = true := by have := HP4.out; simp; omega
          have HMP := Lib.hid hmp
          obtain ⟨pre, hpre⟩ : ∃ pre, o3 ++ List.replicate (m - (7 + sz)) (0 : UInt8) = pre := ⟨_, rfl⟩
          have hpl : pre.length = m := by rw [← hpre, List.length_append, List.length_replicate, HL3.out]; have := HM.out; omega
          have HEN4 := Lib.hid (show E = pre ++ be (adlN pre) 4 by rw [HEN3.out, ← hpre, hmp])
          rw [hpre] at HR5
          have hrb : RB wr A5 m c5 pre := own_RB3 (by have := HR5.out.own; rw [hpl] at this; exact this)
          have C38 := Lib.hid (adler_any A5 m c5 pre wr hrb (by omega))
          have C37e : Hid (∀ W : World, Calls Try.prog 37 #[.int .i64 (adlN pre : Int), .int .i64 4] W fun e w' => Fresh W (be (adlN pre) 4) (fun v => v) e w') := Lib.hid fun W => rput_any (adlN pre) 4 W (by have := (adlN_cast pre).2; omega) (by omega)
          have HPL := Lib.hid hpl
          have HM1 := Lib.hid (show m ≤ 100000 by omega)
          generalize adlN pre = ad at *
          clear hmp hpre hpl hrb
          go_wp2_with (first | (go_at_call 38; (with_reducible refine C38.out.mono ?_); rintro e w8 ⟨rfl, rfl⟩) | (go_at_call 37; (with_reducible refine (C37e.out _).mono ?_); rintro e w9 ⟨v9, rfl, o9, b9⟩; obtain ⟨A9, c9, rfl, -⟩ := own_form o9; have HO9 := Lib.hid (holds_own o9); have HR9 := Lib.hid (HR5.out.over b9); clear o9 b9) | (at_builtin; go_must (refine wpList_app_own (base := wo.heap.size) (n := m) (m := (be ad 4).length) (xs := pre.map Go.Proofs.Ytgbkoegmoelheaa.u8) (news := (be ad 4).map Go.Proofs.Ytgbkoegmoelheaa.u8) rfl (.tmp 63) (.tmp 66) 23 rfl el22 rfl (by have := HR9.out.own; rw [HPL.out] at this; exact this) rfl HO9.out (u8_one _) (by have := HM1.out; rw [be_length]; unfold maxLen; omega) (by have := HM1.out; rw [be_length]; omega) HR9.out.below.size ?_; intro v67 w67 hown hg hat; have HR67 := Lib.hid (show RowW wo w67 v67 (pre ++ be ad 4) from ⟨by rw [List.length_append, List.map_append, HPL.out]; exact hown, below_own HR9.out.below HR9.out.below.size HR9.out.own hg⟩); clear hown hg hat)))
          go_ret
          rw [HEN4.out]
          exact ⟨_, rfl, own_base HR67.out.own HBW.out.size, HBW.out.trans (HR67.out.below.mono HBW.out.size)⟩
        · have q1 : ((m : Int) % 4 != 0) = true := by have := HP4.out; have := HM.out; simp; omega
          have q2 : ((m : Int) % 4 == 0) = false := by have := HP4.out; have := HM.out; simp; omega
          have HMP := Lib.hid hmp
          have HM1 := Lib.hid (show m ≤ 100000 by omega)
          obtain ⟨pre, hpre⟩ : ∃ pre, o3 ++ List.replicate (m - (7 + sz)) (0 : UInt8) = pre := ⟨_, rfl⟩
          have hpl : pre.length = m := by rw [← hpre, List.length_append, List.length_replicate, HL3.out]; have := HM.out; omega
          have HNX := Lib.hid (show o3 ++ List.replicate (m + 1 - (7 + sz)) (0 : UInt8) = pre ++ [0] by rw [← hpre, List.append_assoc, zeros_snoc, show m + 1 - (7 + sz) = m - (7 + sz) + 1 by have := HM.out; omega])
          rw [hpre] at HR5
          have HPL := Lib.hid hpl
          clear hmp hpre hpl
          go_wp2_with (at_builtin; go_must (refine wpList_app_own (base := wo.heap.size) (n := m) (m := 1) (xs := pre.map Go.Proofs.Ytgbkoegmoelheaa.u8) (news := [.int .u8 0]) rfl (.tmp 60) (.tmp 61) 23 rfl el22 rfl (own_alloc (by have := HR5.out.own; rw [HPL.out] at this; exact this)) rfl (Holds.one _ _ _) (by simp [Value.oneCell']) (by have := HM1.out; unfold maxLen; omega) (by have := HM1.out; omega) (by have := HR5.out.below.size; simp; omega) ?_; intro v62 w62 hown hg hat; have HR62 := Lib.hid (show RowW wo w62 v62 (pre ++ [0]) from ⟨by rw [List.length_append, List.map_append, HPL.out]; exact hown, below_own (HR5.out.below.alloc HR5.out.below.size _) (by have := HR5.out.below.size; simp; omega) (own_alloc HR5.out.own) hg⟩); obtain ⟨A62, c62, rfl, -⟩ := own_form hown; clear hown hg hat))
          go_roundw
          case rel => exact ⟨m + 1, A62, c62, rfl, Lib.hid (by have := HM.out; have := HMP.out; omega), by rw [HNX.out]; exact HR62⟩
          case measure => have := HM.out; have := HMP.out; simp; omega
end Go.Proofs.Ytgbkoegmoelheaa
