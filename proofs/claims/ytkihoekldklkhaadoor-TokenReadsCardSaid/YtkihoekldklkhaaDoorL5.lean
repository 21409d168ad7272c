/- The walk of TokenScans. -/
import Derived.Test.YtkihoekldklkhaaDoorTs
import Derived.Deep.RegionHeld3
namespace Go.Proofs.YtkihoekldklkhaaDoor
open Go.RowKit
set_option linter.unusedVariables false
set_option linter.unusedSimpArgs false

theorem tk_get (L : List UInt8) (ds : List Tk) : ∀ (i : Nat) (hi : i < ds.length), (ds.flatMap (TkC L))[i * 5]? = some (.int .i64 ((ds[i]).k : Int)) ∧ (ds.flatMap (TkC L))[i * 5 + 1]? = some (.string ⟨(ds[i]).t.toArray⟩) ∧ (ds.flatMap (TkC L))[i * 5 + 2]? = some (.int .i64 (ds[i]).v) ∧ (ds.flatMap (TkC L))[i * 5 + 3]? = some (.int .i64 ((lcOf L (ds[i]).a).1 : Int)) ∧ (ds.flatMap (TkC L))[i * 5 + 4]? = some (.int .i64 ((lcOf L (ds[i]).a).2 : Int)) := by
  induction ds with
  | nil => intro i hi; simp at hi
  | cons d ds ih =>
    intro i hi
    cases i with
    | zero => simp [TkC]
    | succ i =>
      have := ih i (by simpa using hi)
      have e : (i + 1) * 5 = 5 + i * 5 := by omega
      have h3 : (TkC L d).length = 5 := rfl
      simp only [List.flatMap_cons, List.getElem_cons_succ]
      rw [e, List.getElem?_append_right (by omega), List.getElem?_append_right (by omega), List.getElem?_append_right (by omega), List.getElem?_append_right (by omega), List.getElem?_append_right (by omega), h3]
      simpa [Nat.add_assoc] using this
theorem rk_get (ds : List Tk) : ∀ (i : Nat) (hi : i < ds.length), (ds.flatMap RkC)[i * 4]? = some (.int .i64 ((ds[i]).k : Int)) ∧ (ds.flatMap RkC)[i * 4 + 1]? = some (.string ⟨(ds[i]).t.toArray⟩) ∧ (ds.flatMap RkC)[i * 4 + 2]? = some (.int .i64 (ds[i]).v) ∧ (ds.flatMap RkC)[i * 4 + 3]? = some (.int .i64 ((ds[i]).a : Int)) := by
  induction ds with
  | nil => intro i hi; simp at hi
  | cons d ds ih =>
    intro i hi
    cases i with
    | zero => simp [RkC]
    | succ i =>
      have := ih i (by simpa using hi)
      have e : (i + 1) * 4 = 4 + i * 4 := by omega
      have h3 : (RkC d).length = 4 := rfl
      simp only [List.flatMap_cons, List.getElem_cons_succ]
      rw [e, List.getElem?_append_right (by omega), List.getElem?_append_right (by omega), List.getElem?_append_right (by omega), List.getElem?_append_right (by omega), h3]
      simpa [Nat.add_assoc] using this
theorem own_at {w W : World} {B n sz : Nat} {e : TypeId} {A : Option Addr} {c : Nat} {xs : List Value} (h : w.ownsRow B e sz (.slice A n c) n xs) (h0 : 0 < n) (hb : Below w.heap.size w W) : ∃ g, A = some ⟨g, 0, none⟩ ∧ ∀ j u, xs[j]? = some u → W.cell? ⟨g, j, none⟩ = some u := by
  obtain ⟨A2, c2, e2, -, -, -, hp⟩ := own_formS h
  injection e2 with e3 e4 e5
  subst e3 e5
  obtain ⟨g, rfl, -, hg⟩ := hp h0
  refine ⟨g, rfl, fun j u hj => ?_⟩
  have h9 := (HoldsS.own h).2.2 _ rfl j u hj
  rw [Addr.add_lit, Nat.zero_add] at h9
  exact (hb.cell (World.block_lt_of_cell? _ _ h9)).trans h9
/-- Every token begins within the text. -/
theorem scanL_at : ∀ (n j : Nat) (L : List UInt8), L.length - j < n → j ≤ L.length → ∀ t ∈ (scanL j (L.drop j)).1, t.a ≤ L.length
  | 0, j, L, h, _, t, ht => by omega
  | n + 1, j, L, h, hj, t, ht => by
    have hsk := skipL_le false (L.drop j)
    rw [List.length_drop] at hsk
    by_cases he : j + skipL false (L.drop j) = L.length
    · rw [scanL_end he] at ht; cases ht
    · cases hO : tokO (L.drop (j + skipL false (L.drop j))) with
      | none => rw [scanL_stop (n := 0) (by omega) (.inr ⟨hO, rfl⟩)] at ht; cases ht
      | some r =>
        cases r with
        | bad m => rw [scanL_stop (by omega) (.inl hO)] at ht; cases ht
        | ok k v m =>
          have hok := tokL_ok (r := L.drop (j + skipL false (L.drop j))) (k := k) (v := v) (n := m) (by rw [tokO_eq, hO])
          rw [List.length_drop] at hok
          rw [scanL_step (by omega) hO] at ht
          rcases List.mem_cons.1 ht with rfl | ht
          · show j + skipL false (L.drop j) ≤ L.length
            omega
          · exact scanL_at n _ L (by omega) (by omega) t ht
theorem scanL_fewJ : ∀ (n j : Nat) (L : List UInt8), L.length - j < n → j ≤ L.length → j + (scanL j (L.drop j)).1.length ≤ L.length ∧ ∀ b, (scanL j (L.drop j)).2 = some b → b ≤ L.length
  | 0, j, L, h, _ => by omega
  | n + 1, j, L, h, hj => by
    have hsk := skipL_le false (L.drop j)
    rw [List.length_drop] at hsk
    by_cases he : j + skipL false (L.drop j) = L.length
    · rw [scanL_end he]; exact ⟨by simpa using hj, fun b hb => by cases hb⟩
    · cases hO : tokO (L.drop (j + skipL false (L.drop j))) with
      | none => rw [scanL_stop (n := 0) (by omega) (.inr ⟨hO, rfl⟩)]; exact ⟨by simpa using hj, fun b hb => by injection hb with hb; omega⟩
      | some r =>
        cases r with
        | bad m =>
          have hbd := tokL_bad (r := L.drop (j + skipL false (L.drop j))) (n := m) (by rw [tokO_eq, hO])
          rw [List.length_drop] at hbd
          rw [scanL_stop (by omega) (.inl hO)]
          exact ⟨by simpa using hj, fun b hb => by injection hb with hb; omega⟩
        | ok k v m =>
          have hok := tokL_ok (r := L.drop (j + skipL false (L.drop j))) (k := k) (v := v) (n := m) (by rw [tokO_eq, hO])
          rw [List.length_drop] at hok
          rw [scanL_step (by omega) hO]
          have ih := scanL_fewJ n (j + skipL false (L.drop j) + m) L (by omega) (by omega)
          exact ⟨by rw [List.length_cons]; omega, ih.2⟩
theorem scanL_few (L : List UInt8) : (scanL 0 L).1.length ≤ L.length := by have := (scanL_fewJ (L.length + 1) 0 L (by omega) (by omega)).1; rw [List.drop_zero] at this; omega
theorem scanL_le (L : List UInt8) (b : Nat) (h : (scanL 0 L).2 = some b) : b ≤ L.length := by have := (scanL_fewJ (L.length + 1) 0 L (by omega) (by omega)).2 b; rw [List.drop_zero] at this; exact this h
set_option maxRecDepth 100000 in
set_option maxHeartbeats 1000000 in
theorem scans_law (s : ByteArray) (w : World) (hs : s.size ≤ maxLen) : Calls Tryd.prog 5 #[.string s] w fun e w' => e = .returned (.bool true) ∧ Below w.heap.size w w' := by
  have C8 := Lib.hid known_any
  by_cases hbig : (1000 : Int) < s.size
  · clear hs
    go_enter Tryd.func5, Tryd.ntmps5
    go_wp2_with (go_at_call 8; (with_reducible refine (C8.out _).mono ?_); rintro e w9 ⟨rfl, hb9⟩; have HB9 := Lib.hid hb9; clear hb9)
    go_ret
    exact ⟨rfl, HB9.out⟩
  obtain ⟨L, hL⟩ : ∃ L : List UInt8, s = ⟨L.toArray⟩ := ⟨s.data.toList, by rw [Lib.mk_data]⟩
  subst hL
  have hsz := Lib.size_mk L
  have hn : L.length ≤ 1000 := by omega
  have C20 := Lib.hid (scanT_any L w (by omega))
  have C17 := Lib.hid (fun W => rscan_any L W (by omega))
  have C18 := Lib.hid (fun (b : Nat) (W : World) (hb : b ≤ L.length) => at_any L b W hb (by omega))
  have C19 := Lib.hid (fun (t : Tk) (W : World) (ha : t.a ≤ L.length) => is_true L t W (by omega) ha)
  have hat : ∀ t ∈ (scanL 0 L).1, t.a ≤ L.length := scanL_at (L.length + 1) 0 L (by omega) (by omega)
  have hbl : ∀ b, (scanL 0 L).2 = some b → b ≤ L.length := scanL_le L
  have q0 : decide ((1000 : Int) < ((⟨L.toArray⟩ : ByteArray).size : Int)) = false := by simp; omega
  unfold ScanE at C20
  unfold RScanE at C17
  obtain ⟨R, hR⟩ : ∃ R, scanL 0 L = R := ⟨_, rfl⟩
  rw [hR] at C20 C17 hat hbl
  obtain ⟨ts, bo⟩ := R
  have HAT := Lib.hid hat
  have hfew : ts.length ≤ L.length := by have := scanL_few L; rw [hR] at this; exact this
  generalize (⟨L.toArray⟩ : ByteArray) = St at *
  have hm1 : (ts.length : Int) ≤ 1000 := by omega
  clear hs hbig hn hat hfew hsz
  cases bo with
  | some b =>
    simp only [] at C20 C17
    have C18 := Lib.hid (fun W => C18.out b W (hbl b rfl))
    have q1 : (errN L b != 0) = true := by rcases errN_cases L b with h | h <;> rw [h] <;> rfl
    generalize errN L b = no at *
    generalize ((lcOf L b).1 : Int) = x at *
    generalize ((lcOf L b).2 : Int) = y at *
    clear hR hbl
    go_enter Tryd.func5, Tryd.ntmps5
    go_upto_region 4 with (go_at_call 20; (with_reducible refine C20.out.mono ?_); rintro e w1 ⟨hb1, rfl⟩; have HB1 := Lib.hid hb1; clear hb1)
    obtain ⟨w2, hw2⟩ : ∃ w2, w1.alloc (.cells #[.int .i64 x, .int .i64 y] 26) = w2 := ⟨_, rfl⟩
    have hb2 : Below w.heap.size w w2 := hw2 ▸ HB1.out.alloc HB1.out.size _
    obtain ⟨g, hg⟩ : ∃ g, w1.heap.size = g := ⟨_, rfl⟩
    have HZ2 : Hid (Blk w2 g 26 #[.int .i64 x, .int .i64 y]) := Lib.hid (hg ▸ hw2 ▸ Blk.new w1 26 _)
    have HB2 := Lib.hid hb2
    rw [hw2, hg]
    clear hw2 hb2 hg
    go_upto_region 8 with (go_at_call 17; (with_reducible refine (C17.out _).mono ?_); rintro e w3 ⟨hb3, rfl⟩; have HB3 := Lib.hid (below_drew (HB2.out.trans (hb3.mono HB2.out.size))); have HZ : Hid (Z1 g x y w3.drew) := Lib.hid (Blk.drew1 (HZ2.out.below hb3 HZ2.out.lt)); clear hb3)
    refine wp_region_G (S0 := (Z1 g x y)) (S1 := (Z1 g x y)) (c := 99) (by kernel_rfl) ?_
    have hHeld := HZ.out
    have h01 := (fun (W : World) (h : (Z1 g x y) W) => h)
    refine wpG_takeB (i := 0) (oi := ⟨some 38, _, _, _, _, _⟩) (v := .agg #[.int .i64 x, .int .i64 y]) rfl (by kernel_rfl) (by kernel_rfl) (by kernel_rfl) (by decide) (fun _ _ _ h => h) h01 rfl hHeld (Or.inl ⟨by rfl, ?_⟩) ?_
    · (intro W9 hSw; have v1 := hSw.cell 0; have v2 := hSw.cell 1; simp only [List.getElem?_toArray, List.getElem?_cons_zero, List.getElem?_cons_succ] at v1 v2; go_simp; (try (first | with_reducible rfl | rfl | (simp; done))))
    try simp only [Act.put, List.setIfInBounds_toArray, List.set_cons_zero, List.set_cons_succ]
    refine wpG_takeB (i := 1) (oi := ⟨some 39, _, _, _, _, _⟩) (v := .string St) rfl (by kernel_rfl) (by kernel_rfl) (by kernel_rfl) (by decide) (fun _ _ _ h => h) h01 rfl hHeld (Or.inl ⟨by rfl, ?_⟩) ?_
    · (intro W9 hSw; have v1 := hSw.cell 0; have v2 := hSw.cell 1; simp only [List.getElem?_toArray, List.getElem?_cons_zero, List.getElem?_cons_succ] at v1 v2; go_simp; (try (first | with_reducible rfl | rfl | (simp; done))))
    try simp only [Act.put, List.setIfInBounds_toArray, List.set_cons_zero, List.set_cons_succ]
    refine wpG_takeB (i := 2) (oi := ⟨some 40, _, _, _, _, _⟩) (v := .int .i64 b) rfl (by kernel_rfl) (by kernel_rfl) (by kernel_rfl) (by decide) (fun _ _ _ h => h) h01 rfl hHeld (Or.inl ⟨by rfl, ?_⟩) ?_
    · (intro W9 hSw; have v1 := hSw.cell 0; have v2 := hSw.cell 1; simp only [List.getElem?_toArray, List.getElem?_cons_zero, List.getElem?_cons_succ] at v1 v2; go_simp; (try (first | with_reducible rfl | rfl | (simp; done))))
    try simp only [Act.put, List.setIfInBounds_toArray, List.set_cons_zero, List.set_cons_succ]
    refine wpG_oneB (i := 3) (o := ⟨some 41, _, _, _, _, _⟩) (by kernel_rfl) rfl rfl (fun K hK => ?_)
    go_simp
    (with_reducible refine (C18.out _).mono ?_); rintro e w4 ⟨rfl, hb4⟩
    have HB4 := Lib.hid (HB3.out.trans (hb4.mono HB3.out.size))
    have HZ4 : Hid (Z1 g x y w4) := Lib.hid (Blk.below HZ.out hb4 (Blk.lt HZ.out))
    clear hb4
    refine hK.out _ _ HZ4.out (fun hHeld => ?_)
    clear hK K
    try simp only [Act.put, List.setIfInBounds_toArray, List.set_cons_zero, List.set_cons_succ]
    refine wpG_takeB (i := 4) (oi := ⟨some 42, _, _, _, _, _⟩) (v := .bool true) rfl (by kernel_rfl) (by kernel_rfl) (by kernel_rfl) (by decide) (fun _ _ _ h => h) h01 rfl hHeld (Or.inl ⟨by rfl, ?_⟩) ?_
    · (intro W9 hSw; have v1 := hSw.cell 0; have v2 := hSw.cell 1; simp only [List.getElem?_toArray, List.getElem?_cons_zero, List.getElem?_cons_succ] at v1 v2; go_simp; (try (first | with_reducible rfl | rfl | (simp; done))))
    try simp only [Act.put, List.setIfInBounds_toArray, List.set_cons_zero, List.set_cons_succ]
    refine wpG_takeB (i := 5) (oi := ⟨some 43, _, _, _, _, _⟩) (v := .bool true) rfl (by kernel_rfl) (by kernel_rfl) (by kernel_rfl) (by decide) (fun _ _ _ h => h) h01 rfl hHeld (Or.inl ⟨by rfl, ?_⟩) ?_
    · (intro W9 hSw; have v1 := hSw.cell 0; have v2 := hSw.cell 1; simp only [List.getElem?_toArray, List.getElem?_cons_zero, List.getElem?_cons_succ] at v1 v2; go_simp; (try (first | with_reducible rfl | rfl | (simp; done))))
    try simp only [Act.put, List.setIfInBounds_toArray, List.set_cons_zero, List.set_cons_succ]
    refine wpG_oneB (i := 6) (o := ⟨some 44, _, _, _, _, _⟩) (by kernel_rfl) rfl rfl (fun K hK => ?_)
    go_simp
    (with_reducible refine (C8.out _).mono ?_); rintro e w5 ⟨rfl, hb5⟩
    have HB5 := Lib.hid (HB4.out.trans (hb5.mono HB4.out.size))
    have HZ5 : Hid (Z1 g x y w5) := Lib.hid (Blk.below HZ4.out hb5 (Blk.lt HZ4.out))
    clear hb5
    refine hK.out _ _ HZ5.out (fun hHeld => ?_)
    clear hK K
    try simp only [Act.put, List.setIfInBounds_toArray, List.set_cons_zero, List.set_cons_succ]
    refine wpG_takeB (i := 7) (oi := ⟨some 45, _, _, _, _, _⟩) (v := .bool true) rfl (by kernel_rfl) (by kernel_rfl) (by kernel_rfl) (by decide) (fun _ _ _ h => h) h01 rfl hHeld (Or.inl ⟨by rfl, ?_⟩) ?_
    · (intro W9 hSw; have v1 := hSw.cell 0; have v2 := hSw.cell 1; simp only [List.getElem?_toArray, List.getElem?_cons_zero, List.getElem?_cons_succ] at v1 v2; go_simp; (try (first | with_reducible rfl | rfl | (simp; done))))
    try simp only [Act.put, List.setIfInBounds_toArray, List.set_cons_zero, List.set_cons_succ]
    refine wpG_takeB (i := 8) (oi := ⟨some 2, _, _, _, _, _⟩) (v := .bool true) rfl (by kernel_rfl) (by kernel_rfl) (by kernel_rfl) (by decide) (fun _ _ _ h => h) h01 rfl hHeld (Or.inl ⟨by rfl, ?_⟩) ?_
    · (intro W9 hSw; have v1 := hSw.cell 0; have v2 := hSw.cell 1; simp only [List.getElem?_toArray, List.getElem?_cons_zero, List.getElem?_cons_succ] at v1 v2; go_simp; (try (first | with_reducible rfl | rfl | (simp; done))))
    try simp only [Act.put, List.setIfInBounds_toArray, List.set_cons_zero, List.set_cons_succ]
    refine wpG_done (by kernel_rfl) ?_ _
    clear hHeld h01
    go_wp2_with fail
    go_ret
    exact ⟨rfl, HB5.out⟩
  | none =>
    simp only [] at C20 C17
    clear hbl
    go_enter Tryd.func5, Tryd.ntmps5
    go_upto_region 4 with (go_at_call 20; (with_reducible refine C20.out.mono ?_); rintro e w1 ⟨hb1, A1, c1, rfl, hown1⟩; have HB1 := Lib.hid hb1; have HW1 := Lib.hid hown1; clear hb1 hown1)
    obtain ⟨w2, hw2⟩ : ∃ w2, w1.alloc (.cells #[.int .i64 0, .int .i64 0] 26) = w2 := ⟨_, rfl⟩
    have hb12 : Below w1.heap.size w1 w2 := hw2 ▸ (Below.refl _ w1).alloc (Nat.le_refl _) _
    obtain ⟨g, hg⟩ : ∃ g, w1.heap.size = g := ⟨_, rfl⟩
    have HZ2 : Hid (Blk w2 g 26 #[.int .i64 0, .int .i64 0]) := Lib.hid (hg ▸ hw2 ▸ Blk.new w1 26 _)
    have HB12 := Lib.hid hb12
    rw [hw2, hg]
    clear hw2 hb12 hg
    go_upto_region 9 with (go_at_call 17; (with_reducible refine (C17.out _).mono ?_); rintro e w3 ⟨hb3, A2, c2, rfl, hown2⟩; have HB23 := Lib.hid hb3; have HW2 := Lib.hid hown2; clear hb3 hown2)
    have HB13 := Lib.hid (HB12.out.trans (HB23.out.mono HB12.out.size))
    have HBw := Lib.hid (HB1.out.trans (HB13.out.mono HB1.out.size))
    have HZ3 := Lib.hid (HZ2.out.below HB23.out HZ2.out.lt)
    obtain ⟨m, hm⟩ : ∃ m, ts.length = m := ⟨_, rfl⟩
    have HM := Lib.hid hm
    rw [hm]
    rw [hm] at HW1 HW2 hm1
    clear hm
    go_wp2_with fail
    go_loopw [9] (fun iv wr => ∃ i : Nat, (i : Int) ≤ m ∧ iv = .int .i64 i ∧ Hid (Below w3.heap.size w3 wr)) (fun iv _ => m - (intOf iv).toNat)
    case atStart => exact ⟨0, by omega, rfl, Lib.hid (Below.refl _ _)⟩
    case round =>
      obtain ⟨i, hi, rfl, HBr⟩ := hrel
      by_cases hlt : (i : Int) < m
      · have hi1 : i < ts.length := by rw [HM.out]; omega
        obtain ⟨g1, e1, hc1⟩ := own_at HW1.out (by omega) (HB13.out)
        obtain ⟨g2, e2, hc2⟩ := own_at HW2.out (by omega) (Below.refl _ _)
        subst e1 e2
        obtain ⟨l0, l1, l2, l3, l4⟩ := tk_get L ts i hi1
        obtain ⟨k0, k1, k2, k3⟩ := rk_get ts i hi1
        have C19 := Lib.hid (fun W => C19.out ts[i] W (HAT.out _ (List.getElem_mem hi1)))
        have d0 := hc1 _ _ l0
        have d1 := hc1 _ _ l1
        have d2 := hc1 _ _ l2
        have d3 := hc1 _ _ l3
        have d4 := hc1 _ _ l4
        have b0 := hc2 _ _ k0
        have b1 := hc2 _ _ k1
        have b2 := hc2 _ _ k2
        have b3 := hc2 _ _ k3
        unfold TkC RkC at C19
        generalize ts[i] = t at *
        obtain ⟨k, hk⟩ : ∃ k : Int, (t.k : Int) = k := ⟨_, rfl⟩
        obtain ⟨a, ha⟩ : ∃ a : Int, (t.a : Int) = a := ⟨_, rfl⟩
        obtain ⟨v, hv⟩ : ∃ v : Int, t.v = v := ⟨_, rfl⟩
        obtain ⟨Sx, hSx⟩ : ∃ Sx, (⟨t.t.toArray⟩ : ByteArray) = Sx := ⟨_, rfl⟩
        generalize ((lcOf L t.a).1 : Int) = ln at *
        generalize ((lcOf L t.a).2 : Int) = cl at *
        rw [hk, ha, hv, hSx] at C19
        rw [hk] at d0 b0
        rw [hSx] at d1 b1
        rw [hv] at d2 b2
        rw [ha] at b3
        have key : ∀ (W : World), Below w3.heap.size w3 W → ∀ {p : Addr} {u : Value}, w3.cell? p = some u → W.cell? p = some u := fun W hb p u hp => (hb.cell (World.block_lt_of_cell? _ _ hp)).trans hp
        have HF1 : Hid (∀ W : World, Below w3.heap.size w3 W → W.cell? ⟨g1, i * 5, none⟩ = some (.int .i64 k) ∧ W.cell? ⟨g1, i * 5 + 1, none⟩ = some (.string Sx) ∧ W.cell? ⟨g1, i * 5 + 2, none⟩ = some (.int .i64 v) ∧ W.cell? ⟨g1, i * 5 + 3, none⟩ = some (.int .i64 ln) ∧ W.cell? ⟨g1, i * 5 + 4, none⟩ = some (.int .i64 cl)) := Lib.hid (fun W hb => ⟨key W hb d0, key W hb d1, key W hb d2, key W hb d3, key W hb d4⟩)
        have HF2 : Hid (∀ W : World, Below w3.heap.size w3 W → W.cell? ⟨g2, i * 4, none⟩ = some (.int .i64 k) ∧ W.cell? ⟨g2, i * 4 + 1, none⟩ = some (.string Sx) ∧ W.cell? ⟨g2, i * 4 + 2, none⟩ = some (.int .i64 v) ∧ W.cell? ⟨g2, i * 4 + 3, none⟩ = some (.int .i64 a)) := Lib.hid (fun W hb => ⟨key W hb b0, key W hb b1, key W hb b2, key W hb b3⟩)
        clear hk ha hv hSx d0 d1 d2 d3 d4 b0 b1 b2 b3 l0 l1 l2 l3 l4 k0 k1 k2 k3 hc1 hc2 key hi1
        go_upto_region 12 with fail
        refine wp_region_G (S0 := (fun W : World => Below w3.heap.size w3 W)) (S1 := (fun W : World => Below w3.heap.size w3 W)) (c := 99) (by kernel_rfl) ?_
        have hHeld := (below_drew HBr.out)
        have h01 := (fun (W : World) (h : (fun W : World => Below w3.heap.size w3 W) W) => h)
        refine wpG_takeB (i := 0) (oi := ⟨some 52, _, _, _, _, _⟩) (v := .slice (some ⟨g1, 0, none⟩) m c1) rfl (by kernel_rfl) (by kernel_rfl) (by kernel_rfl) (by decide) (fun _ _ _ h => h) h01 rfl hHeld (Or.inl ⟨by rfl, ?_⟩) ?_
        · (intro W9 hSw; obtain ⟨f0, f1, f2, f3, f4⟩ := HF1.out _ hSw; obtain ⟨h0, h1, h2, h3⟩ := HF2.out _ hSw; go_simp; (try (first | with_reducible rfl | rfl | (simp; done))))
        try simp only [Act.put, List.setIfInBounds_toArray, List.set_cons_zero, List.set_cons_succ]
        refine wpG_takeB (i := 1) (oi := ⟨some 53, _, _, _, _, _⟩) (v := .int .i64 (i : Int)) rfl (by kernel_rfl) (by kernel_rfl) (by kernel_rfl) (by decide) (fun _ _ _ h => h) h01 rfl hHeld (Or.inl ⟨by rfl, ?_⟩) ?_
        · (intro W9 hSw; obtain ⟨f0, f1, f2, f3, f4⟩ := HF1.out _ hSw; obtain ⟨h0, h1, h2, h3⟩ := HF2.out _ hSw; go_simp; (try (first | with_reducible rfl | rfl | (simp; done))))
        try simp only [Act.put, List.setIfInBounds_toArray, List.set_cons_zero, List.set_cons_succ]
        refine wpG_takeB (i := 2) (oi := ⟨some 54, _, _, _, _, _⟩) (v := .pointer (some ⟨g1, i * 5, none⟩)) rfl (by kernel_rfl) (by kernel_rfl) (by kernel_rfl) (by decide) (fun _ _ _ h => h) h01 rfl hHeld (Or.inl ⟨by rfl, ?_⟩) ?_
        · (intro W9 hSw; obtain ⟨f0, f1, f2, f3, f4⟩ := HF1.out _ hSw; obtain ⟨h0, h1, h2, h3⟩ := HF2.out _ hSw; go_simp; (try (first | with_reducible rfl | rfl | (simp; done))))
        try simp only [Act.put, List.setIfInBounds_toArray, List.set_cons_zero, List.set_cons_succ]
        refine wpG_takeB (i := 3) (oi := ⟨some 55, _, _, _, _, _⟩) (v := .agg #[.int .i64 k, .string Sx, .int .i64 v, .int .i64 ln, .int .i64 cl]) rfl (by kernel_rfl) (by kernel_rfl) (by kernel_rfl) (by decide) (fun _ _ _ h => h) h01 rfl hHeld (Or.inl ⟨by rfl, ?_⟩) ?_
        · (intro W9 hSw; obtain ⟨f0, f1, f2, f3, f4⟩ := HF1.out _ hSw; obtain ⟨h0, h1, h2, h3⟩ := HF2.out _ hSw; go_simp; (try (first | with_reducible rfl | rfl | (simp; done))))
        try simp only [Act.put, List.setIfInBounds_toArray, List.set_cons_zero, List.set_cons_succ]
        refine wpG_takeB (i := 4) (oi := ⟨some 56, _, _, _, _, _⟩) (v := .slice (some ⟨g2, 0, none⟩) m c2) rfl (by kernel_rfl) (by kernel_rfl) (by kernel_rfl) (by decide) (fun _ _ _ h => h) h01 rfl hHeld (Or.inl ⟨by rfl, ?_⟩) ?_
        · (intro W9 hSw; obtain ⟨f0, f1, f2, f3, f4⟩ := HF1.out _ hSw; obtain ⟨h0, h1, h2, h3⟩ := HF2.out _ hSw; go_simp; (try (first | with_reducible rfl | rfl | (simp; done))))
        try simp only [Act.put, List.setIfInBounds_toArray, List.set_cons_zero, List.set_cons_succ]
        refine wpG_takeB (i := 5) (oi := ⟨some 57, _, _, _, _, _⟩) (v := .int .i64 (i : Int)) rfl (by kernel_rfl) (by kernel_rfl) (by kernel_rfl) (by decide) (fun _ _ _ h => h) h01 rfl hHeld (Or.inl ⟨by rfl, ?_⟩) ?_
        · (intro W9 hSw; obtain ⟨f0, f1, f2, f3, f4⟩ := HF1.out _ hSw; obtain ⟨h0, h1, h2, h3⟩ := HF2.out _ hSw; go_simp; (try (first | with_reducible rfl | rfl | (simp; done))))
        try simp only [Act.put, List.setIfInBounds_toArray, List.set_cons_zero, List.set_cons_succ]
        refine wpG_takeB (i := 6) (oi := ⟨some 58, _, _, _, _, _⟩) (v := .pointer (some ⟨g2, i * 4, none⟩)) rfl (by kernel_rfl) (by kernel_rfl) (by kernel_rfl) (by decide) (fun _ _ _ h => h) h01 rfl hHeld (Or.inl ⟨by rfl, ?_⟩) ?_
        · (intro W9 hSw; obtain ⟨f0, f1, f2, f3, f4⟩ := HF1.out _ hSw; obtain ⟨h0, h1, h2, h3⟩ := HF2.out _ hSw; go_simp; (try (first | with_reducible rfl | rfl | (simp; done))))
        try simp only [Act.put, List.setIfInBounds_toArray, List.set_cons_zero, List.set_cons_succ]
        refine wpG_takeB (i := 7) (oi := ⟨some 59, _, _, _, _, _⟩) (v := .agg #[.int .i64 k, .string Sx, .int .i64 v, .int .i64 a]) rfl (by kernel_rfl) (by kernel_rfl) (by kernel_rfl) (by decide) (fun _ _ _ h => h) h01 rfl hHeld (Or.inl ⟨by rfl, ?_⟩) ?_
        · (intro W9 hSw; obtain ⟨f0, f1, f2, f3, f4⟩ := HF1.out _ hSw; obtain ⟨h0, h1, h2, h3⟩ := HF2.out _ hSw; go_simp; (try (first | with_reducible rfl | rfl | (simp; done))))
        try simp only [Act.put, List.setIfInBounds_toArray, List.set_cons_zero, List.set_cons_succ]
        refine wpG_takeB (i := 8) (oi := ⟨some 60, _, _, _, _, _⟩) (v := .string St) rfl (by kernel_rfl) (by kernel_rfl) (by kernel_rfl) (by decide) (fun _ _ _ h => h) h01 rfl hHeld (Or.inl ⟨by rfl, ?_⟩) ?_
        · (intro W9 hSw; obtain ⟨f0, f1, f2, f3, f4⟩ := HF1.out _ hSw; obtain ⟨h0, h1, h2, h3⟩ := HF2.out _ hSw; go_simp; (try (first | with_reducible rfl | rfl | (simp; done))))
        try simp only [Act.put, List.setIfInBounds_toArray, List.set_cons_zero, List.set_cons_succ]
        refine wpG_oneB (i := 9) (o := ⟨some 61, _, _, _, _, _⟩) (by kernel_rfl) rfl rfl (fun K hK => ?_)
        go_simp
        (with_reducible refine (C19.out _).mono ?_); rintro e w5 ⟨rfl, hb5⟩
        have HB5 := Lib.hid ((below_drew HBr.out).trans (hb5.mono HBr.out.size))
        clear hb5
        refine hK.out _ _ HB5.out (fun hHeld => ?_)
        clear hK K
        try simp only [Act.put, List.setIfInBounds_toArray, List.set_cons_zero, List.set_cons_succ]
        refine wpG_takeB (i := 10) (oi := ⟨some 62, _, _, _, _, _⟩) (v := .bool false) rfl (by kernel_rfl) (by kernel_rfl) (by kernel_rfl) (by decide) (fun _ _ _ h => h) h01 rfl hHeld (Or.inl ⟨by rfl, ?_⟩) ?_
        · (intro W9 hSw; obtain ⟨f0, f1, f2, f3, f4⟩ := HF1.out _ hSw; obtain ⟨h0, h1, h2, h3⟩ := HF2.out _ hSw; go_simp; (try (first | with_reducible rfl | rfl | (simp; done))))
        try simp only [Act.put, List.setIfInBounds_toArray, List.set_cons_zero, List.set_cons_succ]
        refine wpG_done (by kernel_rfl) ?_ _
        clear hHeld h01
        go_wp2_with fail
        go_roundw
        case rel => exact ⟨i + 1, by omega, by go_num, HB5⟩
        case measure => simp [intOf]; omega
      · have hz := HZ3.out.below HBr.out HZ3.out.lt
        have z0 := hz.cell 0
        have z1 := hz.cell 1
        simp only [List.getElem?_toArray, List.getElem?_cons_zero, List.getElem?_cons_succ] at z0 z1
        clear hz
        go_wp2_with (go_at_call 8; (with_reducible refine (C8.out _).mono ?_); rintro e w9 ⟨rfl, hb9⟩; have HB9 := Lib.hid hb9; clear hb9)
        go_ret
        exact ⟨by first | rfl | simp, (HBw.out.trans (HBr.out.mono HBw.out.size)).trans (HB9.out.mono (Nat.le_trans HBw.out.size HBr.out.size))⟩

end Go.Proofs.YtkihoekldklkhaaDoor
