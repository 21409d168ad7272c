/- The walk of FoldLimits. -/
import Derived.Test.YtkalllenggmgoaaDoorFu
import Derived.Test.YtkalllenggmgoaaDoorFw
namespace Go.Proofs.YtkalllenggmgoaaDoor
open Go.RowKit
set_option linter.unusedVariables false
set_option linter.unusedSimpArgs false

theorem own_HL {w : World} {B n : Nat} {v : Value} {hs : List Hd} (h : w.ownsRow B 25 2 v n (hs.flatMap Hd.cells)) (hn : hs.length = n) : ∃ A c, v = .slice A n c ∧ HL w A n c hs := by
  obtain ⟨A, c, rfl, h1, h2, h3, h4⟩ := own_formS h
  exact ⟨A, c, rfl, hn, HoldsS.own h, h1, h2, fun e => (h3 e).2⟩
theorem one_hd (W : World) : HoldsS (W.alloc (.cells #[.string { data := #[65] }, .string { data := #[] }] 25)) 2 (some ⟨W.heap.size, 0, none⟩) 1 [.string { data := #[65] }, .string { data := #[] }] := HoldsS.new W 2 1 _ 25 rfl
theorem fld43_1 (W : World) (a b c : Int) : (Instr.field 43 (.agg #[.int .i64 a, .int .i64 b, .int .i64 c]) 1).run Tryd.prog W = .ok (.int .i64 b) W := by
  first
  | kernel_rfl
  | simp [go_sem, Tryd.underlying43, Tryd.underlying3]
theorem fld43_2 (W : World) (a b c : Int) : (Instr.field 43 (.agg #[.int .i64 a, .int .i64 b, .int .i64 c]) 2).run Tryd.prog W = .ok (.int .i64 c) W := by
  first
  | kernel_rfl
  | simp [go_sem, Tryd.underlying43, Tryd.underlying3]

set_option maxRecDepth 100000 in
set_option maxHeartbeats 1000000 in
theorem limits_big (m : Nat) (lo : Bool) (w : World) (h95 : (95 : Int) ≤ m) (h105 : (m : Int) ≤ 105) (hc : (100 : Int) < m) :
    Calls Tryd.prog 9 #[.int .i64 (m : Int), .bool lo] w fun e w' => e = .returned (.bool true) ∧ Below w.heap.size w w' := by
  have c95 : ¬ (m : Int) < 95 := by omega
  have c105 : ¬ (105 : Int) < m := by omega
  have c100 : (100 : Int) < m := by omega
  clear hc
  go_enter Tryd.func9, Tryd.ntmps9
  go_upto_region 6 with fail
  go_loopw [5, 6, 7] (fun lv bv iv wr => ∃ i : Nat, (i : Int) ≤ m ∧ iv = .int .i64 i ∧ bv = .string ⟨(bA i).toArray⟩ ∧ Hid (wr.ownsRow w.heap.size 25 2 lv i ((lA i).flatMap Hd.cells)) ∧ Hid (Below w.heap.size w wr)) (fun _ _ iv _ => m - (intOf iv).toNat)
  case atStart => exact ⟨0, by omega, rfl, rfl, Lib.hid (World.ownsRow_nil w _ 25 2), Lib.hid (Below.refl _ _)⟩
  case round =>
    obtain ⟨i, hi, rfl, rfl, HO, HBR⟩ := hrel
    by_cases hlt : (i : Int) < m
    · obtain ⟨Ao, co, eo, -⟩ := own_formS HO.out
      subst eo
      have za := size_str (bA i)
      rw [bA_len] at za
      have e1 : (⟨(bA i).toArray⟩ : ByteArray) ++ { data := #[65, 58, 32, 13, 10] } = ⟨(bA (i + 1)).toArray⟩ := by
        apply ByteArray.ext
        rw [bA_succ]
        simp
      obtain ⟨s1, hs1⟩ : ∃ s1, (⟨(bA (i + 1)).toArray⟩ : ByteArray) = s1 := ⟨_, rfl⟩
      rw [hs1] at e1
      have HS1 := Lib.hid hs1
      clear hs1
      generalize (⟨(bA i).toArray⟩ : ByteArray) = sa at *
      have z5 : ({ data := #[65, 58, 32, 13, 10] } : ByteArray).size = 5 := rfl
      have cc0 : ¬ 9223372036854775807 < 5 * i + 5 := by omega
      go_wp2_with (at_builtin; go_must (refine wpList_app_sz (base := w.heap.size) (n := i) (m := 1) (xs := (lA i).flatMap Hd.cells) (news := [.string { data := #[65] }, .string { data := #[] }]) rfl (.tmp 24) (.tmp 26) 22 rfl elH rfl (own_alloc HO.out) rfl (one_hd _) (by simp [Value.oneCell']) (by unfold maxLen; omega) (by omega) (by have := HBR.out.size; simp; omega) (by simp) ?_; intro v2 w2 hown hg; refine Hid.out ?_))
      have HB2 := Lib.hid (below_own (HBR.out.alloc HBR.out.size _) (by have := HBR.out.size; simp; omega) (own_alloc HO.out) hg)
      have HO2 : Hid (w2.ownsRow w.heap.size 25 2 v2 (i + 1) ((lA (i + 1)).flatMap Hd.cells)) := Lib.hid (by rw [lA_succ, List.flatMap_append]; exact hown)
      clear hown hg
      refine Lib.hid ?_
      go_wp2_with fail
      go_roundw
      case rel => exact ⟨i + 1, by omega, by go_num, by rw [HS1.out], HO2, HB2⟩
      case measure => simp [intOf]; omega
    · obtain rfl : i = m := by omega
      obtain ⟨A0, c0, e0, hl0⟩ := own_HL HO.out (lA_len i)
      subst e0
      have e1 : (⟨(bA i).toArray⟩ : ByteArray) ++ { data := #[13, 10] } = ⟨(bA i ++ [13, 10]).toArray⟩ := by
        apply ByteArray.ext
        simp
      have za := size_str (bA i)
      rw [bA_len] at za
      have z5 : ({ data := #[13, 10] } : ByteArray).size = 2 := rfl
      have cc0 : ¬ 9223372036854775807 < 5 * i + 2 := by omega
      have C12 := Lib.hid (write_bad A0 i c0 (lA i) wr hl0 (by omega) (lA_small i) (validA' (by omega)))

      have HL0 := Lib.hid hl0
      clear hl0
      go_upto_region 11 with (go_at_call 12; (with_reducible refine C12.out.mono ?_); rintro e9 w1 ⟨rfl, hb⟩; have HB1 := Lib.hid hb; clear hb)
      obtain ⟨cv, W2, hcv, hr2, hb2, -⟩ := conv_sr9 w1 (bA i ++ [13, 10]) (by rw [List.length_append, bA_len]; simp; omega)
      have C20 := Lib.hid (read_any _ _ cv _ lo W2 hr2 (by rw [List.length_append, bA_len]; simp; omega))
      unfold ReadE at C20
      rw [readA' (by omega)] at C20
      have HB2 := Lib.hid (HB1.out.trans (hb2.mono HB1.out.size))
      obtain ⟨s2, hs2⟩ : ∃ s2, (⟨(bA i ++ [13, 10]).toArray⟩ : ByteArray) = s2 := ⟨_, rfl⟩
      obtain ⟨ln2, hln2⟩ : ∃ k, (bA i ++ [13, 10]).length = k := ⟨_, rfl⟩
      rw [hln2] at hcv C20
      rw [hs2] at e1 hcv
      clear hln2
      clear hs2 hr2 hb2
      obtain ⟨sa, hsa⟩ : ∃ sa, (⟨(bA i).toArray⟩ : ByteArray) = sa := ⟨_, rfl⟩
      rw [hsa] at e1 za ⊢
      have HSA := Lib.hid hsa
      clear hsa
      go_upto_region 12 with (go_at_call 20; (with_reducible refine C20.out.mono ?_); rintro e9 w3 ⟨v3, rfl, ho3, hb⟩; have HO3 := Lib.hid ho3; have HB3 := Lib.hid (HB2.out.trans (hb.mono HB2.out.size)); clear hb ho3)
      clear e1 hcv
      obtain ⟨cv4, W4, hcv4, hr4, hb4, -⟩ := conv_sr9 w3 (bA i) (by rw [bA_len]; omega)
      rw [HSA.out] at hcv4
      have C22 := Lib.hid (scan22_any _ _ cv4 _ lo W4 hr4 (by rw [bA_len]; omega))
      have hsc := scanA' (show 100 < i by omega) lo []
      rw [List.append_nil] at hsc
      rw [hsc] at C22
      simp only [] at C22
      have HB4 := Lib.hid (HBR.out.trans ((HB3.out.trans (hb4.mono HB3.out.size)).mono HBR.out.size))
      clear hr4 hb4 hsc
      have hf := fun W => fld43_2 W (-1) 0 500
      obtain ⟨A3, c3, e3, -⟩ := own_formS HO3.out
      subst e3
      go_wp2_with (first | (go_at_call 22; (with_reducible refine C22.out.mono ?_); rintro e9 w5 ⟨rfl, hb⟩; have HB5 := Lib.hid (HB4.out.trans (hb.mono HB4.out.size)); clear hb) | (go_at_call 11; (with_reducible refine (known_any _).mono ?_); rintro e9 w9 ⟨rfl, hb9⟩; have HB9 := Lib.hid (HB5.out.trans (hb9.mono HB5.out.size)); clear hb9))
      go_ret
      exact ⟨rfl, HB9.out⟩

set_option maxRecDepth 100000 in
set_option maxHeartbeats 1000000 in
theorem limits_few (m : Nat) (lo : Bool) (w : World) (h95 : (95 : Int) ≤ m) (h105 : (m : Int) ≤ 105) (hc : (m : Int) ≤ 100) :
    Calls Tryd.prog 9 #[.int .i64 (m : Int), .bool lo] w fun e w' => e = .returned (.bool true) ∧ Below w.heap.size w w' := by
  have c95 : ¬ (m : Int) < 95 := by omega
  have c105 : ¬ (105 : Int) < m := by omega
  have c100 : ¬ (100 : Int) < m := by omega
  clear hc
  go_enter Tryd.func9, Tryd.ntmps9
  go_upto_region 6 with fail
  go_loopw [5, 6, 7] (fun lv bv iv wr => ∃ i : Nat, (i : Int) ≤ m ∧ iv = .int .i64 i ∧ bv = .string ⟨(bA i).toArray⟩ ∧ Hid (wr.ownsRow w.heap.size 25 2 lv i ((lA i).flatMap Hd.cells)) ∧ Hid (Below w.heap.size w wr)) (fun _ _ iv _ => m - (intOf iv).toNat)
  case atStart => exact ⟨0, by omega, rfl, rfl, Lib.hid (World.ownsRow_nil w _ 25 2), Lib.hid (Below.refl _ _)⟩
  case round =>
    obtain ⟨i, hi, rfl, rfl, HO, HBR⟩ := hrel
    by_cases hlt : (i : Int) < m
    · obtain ⟨Ao, co, eo, -⟩ := own_formS HO.out
      subst eo
      have za := size_str (bA i)
      rw [bA_len] at za
      have e1 : (⟨(bA i).toArray⟩ : ByteArray) ++ { data := #[65, 58, 32, 13, 10] } = ⟨(bA (i + 1)).toArray⟩ := by
        apply ByteArray.ext
        rw [bA_succ]
        simp
      obtain ⟨s1, hs1⟩ : ∃ s1, (⟨(bA (i + 1)).toArray⟩ : ByteArray) = s1 := ⟨_, rfl⟩
      rw [hs1] at e1
      have HS1 := Lib.hid hs1
      clear hs1
      generalize (⟨(bA i).toArray⟩ : ByteArray) = sa at *
      have z5 : ({ data := #[65, 58, 32, 13, 10] } : ByteArray).size = 5 := rfl
      have cc0 : ¬ 9223372036854775807 < 5 * i + 5 := by omega
      go_wp2_with (at_builtin; go_must (refine wpList_app_sz (base := w.heap.size) (n := i) (m := 1) (xs := (lA i).flatMap Hd.cells) (news := [.string { data := #[65] }, .string { data := #[] }]) rfl (.tmp 24) (.tmp 26) 22 rfl elH rfl (own_alloc HO.out) rfl (one_hd _) (by simp [Value.oneCell']) (by unfold maxLen; omega) (by omega) (by have := HBR.out.size; simp; omega) (by simp) ?_; intro v2 w2 hown hg; refine Hid.out ?_))
      have HB2 := Lib.hid (below_own (HBR.out.alloc HBR.out.size _) (by have := HBR.out.size; simp; omega) (own_alloc HO.out) hg)
      have HO2 : Hid (w2.ownsRow w.heap.size 25 2 v2 (i + 1) ((lA (i + 1)).flatMap Hd.cells)) := Lib.hid (by rw [lA_succ, List.flatMap_append]; exact hown)
      clear hown hg
      refine Lib.hid ?_
      go_wp2_with fail
      go_roundw
      case rel => exact ⟨i + 1, by omega, by go_num, by rw [HS1.out], HO2, HB2⟩
      case measure => simp [intOf]; omega
    · obtain rfl : i = m := by omega
      obtain ⟨A0, c0, e0, hl0⟩ := own_HL HO.out (lA_len i)
      subst e0
      have e1 : (⟨(bA i).toArray⟩ : ByteArray) ++ { data := #[13, 10] } = ⟨(bA i ++ [13, 10]).toArray⟩ := by
        apply ByteArray.ext
        simp
      have za := size_str (bA i)
      rw [bA_len] at za
      have z5 : ({ data := #[13, 10] } : ByteArray).size = 2 := rfl
      have cc0 : ¬ 9223372036854775807 < 5 * i + 2 := by omega
      have C12 := Lib.hid (write_ok A0 i c0 (lA i) wr hl0 (lA_small i) (validA (by omega)))
      unfold Fresh at C12
      have HL0 := Lib.hid hl0
      clear hl0
      go_upto_region 11 with (go_at_call 12; (with_reducible refine C12.out.mono ?_); rintro e9 w1 ⟨v1, rfl, -, hb⟩; have HB1 := Lib.hid hb; clear hb)
      obtain ⟨cv, W2, hcv, hr2, hb2, -⟩ := conv_sr9 w1 (bA i ++ [13, 10]) (by rw [List.length_append, bA_len]; simp; omega)
      have C20 := Lib.hid (read_any _ _ cv _ lo W2 hr2 (by rw [List.length_append, bA_len]; simp; omega))
      unfold ReadE at C20
      rw [readA (by omega)] at C20
      have HB2 := Lib.hid (HB1.out.trans (hb2.mono HB1.out.size))
      obtain ⟨s2, hs2⟩ : ∃ s2, (⟨(bA i ++ [13, 10]).toArray⟩ : ByteArray) = s2 := ⟨_, rfl⟩
      obtain ⟨ln2, hln2⟩ : ∃ k, (bA i ++ [13, 10]).length = k := ⟨_, rfl⟩
      rw [hln2] at hcv C20
      rw [hs2] at e1 hcv
      clear hln2
      clear hs2 hr2 hb2
      obtain ⟨sa, hsa⟩ : ∃ sa, (⟨(bA i).toArray⟩ : ByteArray) = sa := ⟨_, rfl⟩
      rw [hsa] at e1 za ⊢
      have HSA := Lib.hid hsa
      clear hsa
      go_upto_region 12 with (go_at_call 20; (with_reducible refine C20.out.mono ?_); rintro e9 w3 ⟨v3, rfl, ho3, hb⟩; have HO3 := Lib.hid ho3; have HB3 := Lib.hid (HB2.out.trans (hb.mono HB2.out.size)); clear hb ho3)
      clear e1 hcv
      obtain ⟨A3, c3, e3, hl3⟩ := own_HL HO3.out rfl
      subst e3
      have C18 := Lib.hid (same_any A3 A0 _ c3 i c0 (lA i) (lA i) w3 hl3 (HL0.out.below HB3.out) (by rw [lA_len]; omega))
      rw [decide_eq_true rfl] at C18
      clear hl3
      have HSC := Lib.hid (scanA (show i ≤ 100 by omega) lo)
      go_upto_region 14 with fail
      go_wp2_with (go_at_call 18; (with_reducible refine C18.out.mono ?_); rintro e9 w4 ⟨rfl, hb⟩; have HB4 := Lib.hid (HB3.out.trans (hb.mono HB3.out.size)); clear hb; refine Hid.out ?_)
      obtain ⟨cv5, W5, hcv5, hr5, hb5, -⟩ := conv_sr9 w4 (bA i) (by rw [bA_len]; omega)
      rw [HSA.out] at hcv5
      have C22 := Lib.hid (scan22_any _ _ cv5 _ lo W5 hr5 (by rw [bA_len]; omega))
      rw [HSC.out] at C22
      simp only [] at C22
      have HB5 := Lib.hid (HBR.out.trans ((HB4.out.trans (hb5.mono HB4.out.size)).mono HBR.out.size))
      clear hr5 hb5
      have hf := fun W => fld43_1 W (-1) 2 (-1)
      refine Lib.hid ?_
      go_wp2_with (first | (go_at_call 22; (with_reducible refine C22.out.mono ?_); rintro e9 w6 ⟨rfl, hb⟩; have HB6 := Lib.hid (HB5.out.trans (hb.mono HB5.out.size)); clear hb) | (go_at_call 11; (with_reducible refine (known_any _).mono ?_); rintro e9 w9 ⟨rfl, hb9⟩; have HB9 := Lib.hid (HB6.out.trans (hb9.mono HB6.out.size)); clear hb9))
      go_ret
      exact ⟨rfl, HB9.out⟩

set_option maxRecDepth 100000 in
set_option maxHeartbeats 1000000 in
theorem limits_law (n : Int) (lo : Bool) (w : World) (hw : (Lit.int .i64 n).wf = true) :
    Calls Tryd.prog 9 #[.int .i64 n, .bool lo] w fun e w' => e = .returned (.bool true) ∧ Below w.heap.size w w' := by
  by_cases h1 : n < 95
  · clear hw
    go_enter Tryd.func9, Tryd.ntmps9
    go_wp2_with (go_at_call 11; (with_reducible refine (known_any _).mono ?_); rintro e9 w9 ⟨rfl, hb9⟩; have HB9 := Lib.hid hb9; clear hb9)
    go_ret
    exact ⟨rfl, HB9.out⟩
  · by_cases h2 : 105 < n
    · clear hw
      go_enter Tryd.func9, Tryd.ntmps9
      go_wp2_with (go_at_call 11; (with_reducible refine (known_any _).mono ?_); rintro e9 w9 ⟨rfl, hb9⟩; have HB9 := Lib.hid hb9; clear hb9)
      go_ret
      exact ⟨rfl, HB9.out⟩
    · obtain ⟨m, rfl⟩ : ∃ m : Nat, n = m := ⟨n.toNat, by omega⟩
      by_cases h3 : (100 : Int) < m
      · exact limits_big m lo w (by omega) (by omega) h3
      · exact limits_few m lo w (by omega) (by omega) (by omega)

end Go.Proofs.YtkalllenggmgoaaDoor
