/- Find; the reference: Same. -/
import Derived.Test.YtkalllenggmgoaaDoorFu
namespace Go.Proofs.YtkalllenggmgoaaDoor
open Go.RowKit
set_option linter.unusedVariables false
set_option linter.unusedSimpArgs false

def lw (c : UInt8) : Int := lowI (c.toNat : Int)
def eqF (a b : List UInt8) : Bool := decide (a.map lw = b.map lw)
theorem eqF_len {a b : List UInt8} (h : a.length ≠ b.length) : eqF a b = false := by
  unfold eqF
  rw [decide_eq_false_iff_not]
  intro h1
  have := congrArg List.length h1
  simp at this
  exact h this
theorem eqF_ne {a b : List UInt8} {i : Nat} (h1 : i < a.length) (h2 : i < b.length) (h : lw a[i] ≠ lw b[i]) : eqF a b = false := by
  unfold eqF
  rw [decide_eq_false_iff_not]
  intro h3
  apply h
  have h4 := congrArg (fun l => l[i]?) h3
  simpa [List.getElem?_map, List.getElem?_eq_getElem h1, List.getElem?_eq_getElem h2] using h4
theorem eqF_take {a b : List UInt8} {i : Nat} (h1 : i < a.length) (h2 : i < b.length) (h : (a.take i).map lw = (b.take i).map lw) (he : lw a[i] = lw b[i]) : (a.take (i + 1)).map lw = (b.take (i + 1)).map lw := by
  rw [List.take_succ_eq_append_getElem h1, List.take_succ_eq_append_getElem h2, List.map_append, List.map_append, h]
  simp [he]
theorem eqF_all {a b : List UInt8} {i : Nat} (h1 : a.length ≤ i) (h2 : b.length ≤ i) (h : (a.take i).map lw = (b.take i).map lw) : eqF a b = true := by
  unfold eqF
  rw [List.take_of_length_le h1, List.take_of_length_le h2] at h
  exact decide_eq_true h
set_option maxRecDepth 100000 in
set_option maxHeartbeats 1000000 in
theorem eq47_any (x y : Int) (w : World) (hx0 : 0 ≤ x) (hx1 : x < 256) (hy0 : 0 ≤ y) (hy1 : y < 256) :
    Calls Tryd.prog 47 #[.int .u8 x, .int .u8 y] w fun e w' => e = .returned (.bool (lowI x == lowI y)) ∧ w' = w := by
  have Cx := Lib.hid (fun W => low_any x W hx0 hx1)
  have Cy := Lib.hid (fun W => low_any y W hy0 hy1)
  clear hx0 hx1 hy0 hy1
  go_enter Tryd.func47, Tryd.ntmps47
  go_wp2_with (first | (go_at_call 48; (with_reducible refine (Cx.out _).mono ?_); rintro e9 w9 ⟨rfl, rfl⟩) | (go_at_call 48; (with_reducible refine (Cy.out _).mono ?_); rintro e9 w9 ⟨rfl, rfl⟩))
  go_ret
  exact ⟨rfl, rfl⟩
set_option maxRecDepth 100000 in
set_option maxHeartbeats 1000000 in
theorem eqfunc_any (A1 : Option Addr) (n1 c1 : Nat) (a : List UInt8) (A2 : Option Addr) (n2 c2 : Nat) (b : List UInt8) (w : World) (h1 : RB w A1 n1 c1 a) (h2 : RB w A2 n2 c2 b) (hn : n1 ≤ 1000000) :
    Calls Tryd.prog 46 #[.slice A1 n1 c1, .slice A2 n2 c2, .func (.func 47) #[] #[]] w fun e w' => e = .returned (.bool (eqF a b)) ∧ Below w.heap.size w w' := by
  have H1 := Lib.hid h1
  have H2 := Lib.hid h2
  have L1 := Lib.hid h1.len
  have L2 := Lib.hid h2.len
  have hn0 : (n1 : Int) ≤ 1000000 := by omega
  clear h1 h2 hn
  by_cases hne : n1 = n2
  · subst hne
    have q0 : ((n1 : Int) != n1) = false := by simp
    go_enter Tryd.func46, Tryd.ntmps46
    go_wp2_with fail
    go_loopw [17] (fun ii wr => ∃ i : Nat, (i : Int) ≤ n1 ∧ ii = .int .i64 i ∧ Hid ((a.take i).map lw = (b.take i).map lw) ∧ Hid (Below w.heap.size w wr)) (fun ii _ => n1 - (intOf ii).toNat)
    case atStart => exact ⟨0, by omega, rfl, Lib.hid rfl, Lib.hid (Below.refl _ _)⟩
    case round =>
      obtain ⟨i, hi, rfl, HE, HB⟩ := hrel
      by_cases hlt : (i : Int) < n1
      · have i1 : i < a.length := by rw [L1.out]; omega
        have i2 : i < b.length := by rw [L2.out]; omega
        obtain ⟨b1, o1, e1, hc1⟩ := (H1.out.below HB.out).at (by omega)
        obtain ⟨b2, o2, e2, hc2⟩ := (H2.out.below HB.out).at (by omega)
        subst e1 e2
        replace hc1 := hc1 i i1
        replace hc2 := hc2 i i2
        have HS := Lib.hid (eqF_take i1 i2 HE.out)
        have HN := Lib.hid (eqF_ne (a := a) (b := b) i1 i2)
        have hx1 := (a[i]).toNat_lt
        have hy1 := (b[i]).toNat_lt
        have Cx := Lib.hid (eq47_any ((a[i]).toNat : Int) ((b[i]).toNat : Int) wr (by omega) (by omega) (by omega) (by omega))
        unfold lw at HS HN
        generalize ((a[i]).toNat : Int) = x at *
        generalize ((b[i]).toNat : Int) = y at *
        clear hx1 hy1 i1 i2
        cases hq : (lowI x == lowI y) with
        | true =>
          rw [hq] at Cx
          have HS2 := Lib.hid (HS.out (by simpa using hq))
          clear hq
          go_wp2_with (go_at_call 47; (with_reducible refine Cx.out.mono ?_); rintro e9 w9 ⟨rfl, rfl⟩)
          go_roundw
          case rel => exact ⟨i + 1, by omega, by go_num, HS2, HB⟩
          case measure => simp [intOf]; omega
        | false =>
          rw [hq] at Cx
          have HN2 := Lib.hid (HN.out (by simpa using hq))
          clear hq
          go_wp2_with (go_at_call 47; (with_reducible refine Cx.out.mono ?_); rintro e9 w9 ⟨rfl, rfl⟩)
          go_ret
          exact ⟨by rw [HN2.out]; rfl, HB.out⟩
      · have HT := Lib.hid (eqF_all (a := a) (b := b) (i := i) (by rw [L1.out]; omega) (by rw [L2.out]; omega) HE.out)
        go_wp2_with fail
        go_ret
        exact ⟨by rw [HT.out]; rfl, HB.out⟩
  · have q0 : ((n1 : Int) != n2) = true := by simp; omega
    have HN := Lib.hid (eqF_len (a := a) (b := b) (by rw [L1.out, L2.out]; exact hne))
    clear hne
    go_enter Tryd.func46, Tryd.ntmps46
    go_wp2_with fail
    go_ret
    exact ⟨by rw [HN.out]; rfl, Below.refl _ _⟩

set_option maxRecDepth 100000 in
set_option maxHeartbeats 1000000 in
theorem rsame_any (a b : List UInt8) (w : World) (hn : a.length ≤ 1000000) (hm : b.length ≤ 1000000) :
    Calls Tryd.prog 26 #[.string ⟨a.toArray⟩, .string ⟨b.toArray⟩] w fun e w' => e = .returned (.bool (eqF a b)) ∧ Below w.heap.size w w' := by
  have IA := Lib.hid (fun (i : Nat) (h : i < a.length) W => idx_str W a i h)
  have IB := Lib.hid (fun (i : Nat) (h : i < b.length) W => idx_str W b i h)
  have z1 := size_str a
  have z2 := size_str b
  generalize (⟨a.toArray⟩ : ByteArray) = s1 at *
  generalize (⟨b.toArray⟩ : ByteArray) = s2 at *
  have hn0 : (s1.size : Int) ≤ 1000000 := by omega
  have hm0 : (s2.size : Int) ≤ 1000000 := by omega
  have HZ1 := Lib.hid z1
  have HZ2 := Lib.hid z2
  clear hn hm z1 z2
  by_cases hne : s1.size = s2.size
  · have q0 : ((s1.size : Int) != s2.size) = false := by simp; omega
    have HNE := Lib.hid hne
    clear hne
    go_enter Tryd.func26, Tryd.ntmps26
    go_wp2_with fail
    generalize hz : s1.size = sz at *
    go_loopw [5] (fun ii wr => ∃ i : Nat, (i : Int) ≤ sz ∧ ii = .int .i64 i ∧ Hid ((a.take i).map lw = (b.take i).map lw) ∧ Hid (Below w.heap.size w wr)) (fun ii _ => sz - (intOf ii).toNat)
    case atStart => exact ⟨0, by omega, rfl, Lib.hid rfl, Lib.hid (Below.refl _ _)⟩
    case round =>
      obtain ⟨i, hi, rfl, HE, HBR⟩ := hrel
      by_cases hlt : (i : Int) < sz
      · have i1 : i < a.length := by rw [← HZ1.out]; omega
        have i2 : i < b.length := by rw [← HZ2.out, ← HNE.out]; omega
        have HX := Lib.hid (IA.out i i1)
        have HY := Lib.hid (IB.out i i2)
        have HS := Lib.hid (eqF_take i1 i2 HE.out)
        have HN := Lib.hid (eqF_ne (a := a) (b := b) i1 i2)
        have hx1 := (a[i]).toNat_lt
        have hy1 := (b[i]).toNat_lt
        have Cx := Lib.hid (fun W => rlow_any ((a[i]).toNat : Int) W (by omega) (by omega))
        have Cy := Lib.hid (fun W => rlow_any ((b[i]).toNat : Int) W (by omega) (by omega))
        unfold lw at HS HN
        generalize ((a[i]).toNat : Int) = x at *
        generalize ((b[i]).toNat : Int) = y at *
        clear hx1 hy1 i1 i2
        go_upto_region 6 with fail
        refine wp_region_G (S0 := (fun W => Below w.heap.size w W)) (S1 := (fun W => Below w.heap.size w W)) (c := 99) (by kernel_rfl) ?_
        have hHeld := (show Below w.heap.size w wr.drew from below_drew HBR.out)
        have h01 := (fun (W : World) (h : (fun W => Below w.heap.size w W) W) => h)
        refine wpG_takeB (i := 0) (oi := ⟨some 17, _, _, _, _, _⟩) (v := .string s1) rfl (by kernel_rfl) (by kernel_rfl) (by kernel_rfl) (by decide) (fun _ _ _ h => h) h01 rfl hHeld (Or.inl ⟨by rfl, ?_⟩) ?_
        · (intro W9 hSw; have i1 := HX.out; have i2 := HY.out; go_simp; (try (first | with_reducible rfl | rfl | (simp; done))))
        try simp only [Act.put, List.setIfInBounds_toArray, List.set_cons_zero, List.set_cons_succ]
        refine wpG_takeB (i := 1) (oi := ⟨some 18, _, _, _, _, _⟩) (v := .int .i64 (i : Int)) rfl (by kernel_rfl) (by kernel_rfl) (by kernel_rfl) (by decide) (fun _ _ _ h => h) h01 rfl hHeld (Or.inl ⟨by rfl, ?_⟩) ?_
        · (intro W9 hSw; have i1 := HX.out; have i2 := HY.out; go_simp; (try (first | with_reducible rfl | rfl | (simp; done))))
        try simp only [Act.put, List.setIfInBounds_toArray, List.set_cons_zero, List.set_cons_succ]
        refine wpG_takeB (i := 2) (oi := ⟨some 19, _, _, _, _, _⟩) (v := .int .u8 x) rfl (by kernel_rfl) (by kernel_rfl) (by kernel_rfl) (by decide) (fun _ _ _ h => h) h01 rfl hHeld (Or.inl ⟨by rfl, ?_⟩) ?_
        · (intro W9 hSw; have i1 := HX.out; have i2 := HY.out; go_simp; (try (first | with_reducible rfl | rfl | (simp; done))))
        try simp only [Act.put, List.setIfInBounds_toArray, List.set_cons_zero, List.set_cons_succ]
        refine wpG_takeB (i := 4) (oi := ⟨some 21, _, _, _, _, _⟩) (v := .string s2) rfl (by kernel_rfl) (by kernel_rfl) (by kernel_rfl) (by decide) (fun _ _ _ h => h) h01 rfl hHeld (Or.inl ⟨by rfl, ?_⟩) ?_
        · (intro W9 hSw; have i1 := HX.out; have i2 := HY.out; go_simp; (try (first | with_reducible rfl | rfl | (simp; done))))
        try simp only [Act.put, List.setIfInBounds_toArray, List.set_cons_zero, List.set_cons_succ]
        refine wpG_takeB (i := 5) (oi := ⟨some 22, _, _, _, _, _⟩) (v := .int .i64 (i : Int)) rfl (by kernel_rfl) (by kernel_rfl) (by kernel_rfl) (by decide) (fun _ _ _ h => h) h01 rfl hHeld (Or.inl ⟨by rfl, ?_⟩) ?_
        · (intro W9 hSw; have i1 := HX.out; have i2 := HY.out; go_simp; (try (first | with_reducible rfl | rfl | (simp; done))))
        try simp only [Act.put, List.setIfInBounds_toArray, List.set_cons_zero, List.set_cons_succ]
        refine wpG_takeB (i := 6) (oi := ⟨some 23, _, _, _, _, _⟩) (v := .int .u8 y) rfl (by kernel_rfl) (by kernel_rfl) (by kernel_rfl) (by decide) (fun _ _ _ h => h) h01 rfl hHeld (Or.inl ⟨by rfl, ?_⟩) ?_
        · (intro W9 hSw; have i1 := HX.out; have i2 := HY.out; go_simp; (try (first | with_reducible rfl | rfl | (simp; done))))
        try simp only [Act.put, List.setIfInBounds_toArray, List.set_cons_zero, List.set_cons_succ]
        refine wpG_oneB (i := 3) (o := ⟨some 20, _, _, _, _, _⟩) (by kernel_rfl) rfl rfl (fun K hK => ?_)
        go_simp
        (with_reducible refine (Cx.out _).mono ?_); rintro e w9 ⟨rfl, rfl⟩
        refine hK.out _ _ hHeld (fun hHeld => ?_)
        clear hK K
        try simp only [Act.put, List.setIfInBounds_toArray, List.set_cons_zero, List.set_cons_succ]
        refine wpG_oneB (i := 7) (o := ⟨some 24, _, _, _, _, _⟩) (by kernel_rfl) rfl rfl (fun K hK => ?_)
        go_simp
        (with_reducible refine (Cy.out _).mono ?_); rintro e w9 ⟨rfl, rfl⟩
        refine hK.out _ _ hHeld (fun hHeld => ?_)
        clear hK K
        try simp only [Act.put, List.setIfInBounds_toArray, List.set_cons_zero, List.set_cons_succ]
        refine wpG_takeB (i := 8) (oi := ⟨some 25, _, _, _, _, _⟩) (v := .bool (lowI x != lowI y)) rfl (by kernel_rfl) (by kernel_rfl) (by kernel_rfl) (by decide) (fun _ _ _ h => h) h01 rfl hHeld (Or.inl ⟨by rfl, ?_⟩) ?_
        · (intro W9 hSw; have i1 := HX.out; have i2 := HY.out; go_simp; (try (first | with_reducible rfl | rfl | (simp; done))))
        try simp only [Act.put, List.setIfInBounds_toArray, List.set_cons_zero, List.set_cons_succ]
        refine wpG_done (by kernel_rfl) ?_ _
        clear h01
        cases hq : (lowI x != lowI y) with
        | false =>
          have HS2 := Lib.hid (HS.out (by simpa using hq))
          clear hq
          go_wp2_with fail
          go_roundw
          case rel => exact ⟨i + 1, by omega, by go_num, HS2, Lib.hid hHeld⟩
          case measure => simp [intOf]; omega
        | true =>
          have HN2 := Lib.hid (HN.out (by simpa using hq))
          clear hq
          go_wp2_with fail
          go_ret
          exact ⟨by rw [HN2.out]; rfl, hHeld⟩
      · have HT := Lib.hid (eqF_all (a := a) (b := b) (i := i) (by rw [← HZ1.out]; omega) (by rw [← HZ2.out, ← HNE.out]; omega) HE.out)
        go_wp2_with fail
        go_ret
        exact ⟨by rw [HT.out]; rfl, HBR.out⟩
  · have q0 : ((s1.size : Int) != s2.size) = true := by simp; omega
    have HN := Lib.hid (eqF_len (a := a) (b := b) (by rw [← HZ1.out, ← HZ2.out]; exact hne))
    clear hne
    go_enter Tryd.func26, Tryd.ntmps26
    go_wp2_with fail
    go_ret
    exact ⟨by rw [HN.out]; rfl, Below.refl _ _⟩

end Go.Proofs.YtkalllenggmgoaaDoor
