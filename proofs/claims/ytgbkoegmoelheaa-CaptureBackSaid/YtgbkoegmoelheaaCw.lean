/- The reference's Decode. -/
import Derived.Test.YtgbkoegmoelheaaCv
namespace Go.Proofs.Ytgbkoegmoelheaa
open Go.RowKit
set_option linter.unusedVariables false
set_option linter.unusedSimpArgs false

theorem num_cons (x : UInt8) (l : List UInt8) : num (x :: l) = x.toNat * 256 ^ l.length + num l := by
  refine snoc_ind (M := fun l => num (x :: l) = x.toNat * 256 ^ l.length + num l) (by simp [num]) (fun l y ih => ?_) l
  rw [← List.cons_append, num_snoc, num_snoc, ih, List.length_append, List.length_singleton, Nat.pow_succ, Nat.mul_add, ← Nat.mul_assoc, Nat.mul_comm 256 x.toNat, Nat.mul_assoc, Nat.mul_comm 256 (256 ^ l.length), Nat.add_assoc]
theorem num_be (v n : Nat) : num (be v n) = v % 256 ^ n := by
  induction n with
  | zero => simp [be, num, Nat.mod_one]
  | succ n ih =>
    rw [be, num_cons, ih, be_length, UInt8.toNat_ofNat', Nat.mod_eq_of_lt (Nat.mod_lt _ (by omega)), Nat.mod_pow_succ, Nat.mul_comm, Nat.add_comm]
theorem num_inj : ∀ (a b : List UInt8), a.length = b.length → num a = num b → a = b
  | [], [], _, _ => rfl
  | [], _ :: _, h, _ => by simp at h
  | _ :: _, [], h, _ => by simp at h
  | x :: a, y :: b, h, hn => by
    have hl : a.length = b.length := by simpa using h
    rw [num_cons, num_cons, hl] at hn
    have h1 := num_lt a
    have h2 := num_lt b
    rw [hl] at h1
    have hp : 0 < 256 ^ b.length := Nat.pow_pos (by omega)
    have hx : x.toNat = y.toNat := by
      have e1 : (x.toNat * 256 ^ b.length + num a) / 256 ^ b.length = x.toNat := by rw [Nat.mul_comm, Nat.mul_add_div hp, Nat.div_eq_of_lt h1, Nat.add_zero]
      have e2 : (y.toNat * 256 ^ b.length + num b) / 256 ^ b.length = y.toNat := by rw [Nat.mul_comm, Nat.mul_add_div hp, Nat.div_eq_of_lt h2, Nat.add_zero]
      rw [← e1, ← e2, hn]
    have hab : num a = num b := by rw [hx] at hn; omega
    rw [UInt8.toNat_inj.1 hx, num_inj a b hl hab]
theorem be_eq_iff {a : Nat} {y : List UInt8} (ha : a < 4294967296) (hy : y.length = 4) : be a 4 = y ↔ num y = a := by
  have e : num (be a 4) = a := by rw [num_be]; exact Nat.mod_eq_of_lt (by omega)
  constructor
  · intro h; rw [← h]; exact e
  · intro h; exact num_inj _ _ (by rw [be_length, hy]) (by rw [e, h])

set_option maxRecDepth 100000 in
set_option maxHeartbeats 8000000 in
theorem rdec_any (A : Option Addr) (n c : Nat) (l : List UInt8) (w : World) (h : RB w A n c l) (hn : n ≤ 2000000) :
    Calls Try.prog 18 #[.slice A n c] w (DecR w (dec l)) := by
  have HR := Lib.hid h
  have HLN := Lib.hid h.len
  have HN := Lib.hid hn
  have hn0 : (n : Int) ≤ 2000000 := by omega
  obtain ⟨D, hD⟩ : ∃ D, dec l = D := ⟨_, rfl⟩
  have HD := Lib.hid hD
  rw [hD]
  clear h hn hD
  go_enter Try.func18, Try.ntmps18
  by_cases h7 : (n : Int) < 7
  case pos =>
    have q0 : decide ((n : Int) < 7) = true := decide_eq_true h7
    have HF := Lib.hid (show D = .error 4 by rw [← HD.out]; exact dec_1 (by rw [HLN.out]; omega))
    clear h7
    go_wp2_with fail
    go_ret3
    exact ⟨Below.refl _ _, .inl ⟨4, HF.out, rfl⟩⟩
  case neg =>
  have q0 : decide ((n : Int) < 7) = false := decide_eq_false h7
  have HH7 := Lib.hid (show 7 ≤ n by omega)
  obtain ⟨A1, c1, hs1, hr1, -⟩ := slice_in w A n c 5 7 l HR.out (by omega) (by omega)
  obtain ⟨A4, c4, hs4, hr4, -⟩ := slice_to w A n c 4 l HR.out (by omega)
  obtain ⟨S, hS⟩ : ∃ S, num ((l.take 7).drop 5) = S := ⟨_, rfl⟩
  have C44 := rget_any A1 2 c1 _ w.drew (hr1.below (below_drew (Below.refl _ _))) (by omega)
  have hSl := num_lt ((l.take 7).drop 5)
  have hSl2 : ((l.take 7).drop 5).length = 2 := hr1.len
  rw [hSl2, hS] at hSl
  rw [hS] at C44
  obtain ⟨X, hX⟩ : ∃ X : Int, (S : Int) = X := ⟨_, rfl⟩
  rw [hX] at C44
  have C44 := Lib.hid C44
  have HS := Lib.hid hS
  have HXS := Lib.hid (And.intro hX hSl)
  have HS1 : Hid (∀ W' : World, (Instr.slice 23 (.slice A n c) (some (.int .i64 5)) (some (.int .i64 7)) none).run Try.prog W' = .ok (.slice A1 2 c1) W') := Lib.hid hs1
  have HS4 : Hid (∀ W' : World, (Instr.slice 23 (.slice A n c) none (some (.int .i64 4)) none).run Try.prog W' = .ok (.slice A4 4 c4) W') := Lib.hid hs4
  have HR4 := Lib.hid hr4
  have h4l : 4 < l.length := by rw [HLN.out]; omega
  obtain ⟨Y, hY⟩ : ∃ Y, (l.getD 4 0).toNat = Y := ⟨_, rfl⟩
  have hYl : Y < 256 := by rw [← hY]; exact UInt8.toNat_lt _
  obtain ⟨y, hy⟩ : ∃ y : Int, (Y : Int) = y := ⟨_, rfl⟩
  have HY := Lib.hid (And.intro hY (And.intro hy hYl))
  obtain ⟨b, o, rfl, hat⟩ := HR.out.at (by omega)
  have K4 : Hid (w.drew.cell? ⟨b, o + 4, none⟩ = some (.int .u8 y)) := Lib.hid (by
    have h1 := hat 4 h4l
    rw [getD4 h4l] at hY
    rw [hY, hy] at h1
    exact h1)
  have HI4 := Lib.hid (show (0 : Int) ≤ 4 ∧ (4 : Int) < n by omega)
  clear hs1 hr1 hs4 hr4 hS hSl hSl2 hX h4l hY hYl hy hat h7
  go_upto_region 3 with fail
  clear q0
  refine wp_region_G (S0 := (fun W => W.cell? ⟨b, o + 4, none⟩ = some (.int .u8 y))) (S1 := (fun W => W.cell? ⟨b, o + 4, none⟩ = some (.int .u8 y))) (c := 99) (by kernel_rfl) ?_
  have hHeld := K4.out
  have h01 := (fun (W : World) (h : (fun W => W.cell? ⟨b, o + 4, none⟩ = some (.int .u8 y)) W) => h)
  refine wpG_takeB (i := 0) (oi := ⟨some 13, _, _, _, _, _⟩) (v := .slice (some ⟨b, o, none⟩) n c) rfl (by kernel_rfl) (by kernel_rfl) (by kernel_rfl) (by decide) (fun _ _ _ h => h) h01 rfl hHeld (Or.inl ⟨by rfl, ?_⟩) ?_
  · (intro W9 hSw; have g1 := HS1.out; have g2 := HI4.out; go_simp; (try (first | with_reducible rfl | rfl | exact hSw | (rw [IntKind.wrap_i64]; have := HY.out; omega) | (simp; done))))
  try simp only [Act.put, List.setIfInBounds_toArray, List.set_cons_zero, List.set_cons_succ]
  refine wpG_takeB (i := 1) (oi := ⟨some 14, _, _, _, _, _⟩) (v := .pointer (some ⟨b, o + 4, none⟩)) rfl (by kernel_rfl) (by kernel_rfl) (by kernel_rfl) (by decide) (fun _ _ _ h => h) h01 rfl hHeld (Or.inl ⟨by rfl, ?_⟩) ?_
  · (intro W9 hSw; have g1 := HS1.out; have g2 := HI4.out; go_simp; (try (first | with_reducible rfl | rfl | exact hSw | (rw [IntKind.wrap_i64]; have := HY.out; omega) | (simp; done))))
  try simp only [Act.put, List.setIfInBounds_toArray, List.set_cons_zero, List.set_cons_succ]
  refine wpG_takeB (i := 2) (oi := ⟨some 15, _, _, _, _, _⟩) (v := .int .u8 y) rfl (by kernel_rfl) (by kernel_rfl) (by kernel_rfl) (by decide) (fun _ _ _ h => h) h01 rfl hHeld (Or.inl ⟨by rfl, ?_⟩) ?_
  · (intro W9 hSw; have g1 := HS1.out; have g2 := HI4.out; go_simp; (try (first | with_reducible rfl | rfl | exact hSw | (rw [IntKind.wrap_i64]; have := HY.out; omega) | (simp; done))))
  try simp only [Act.put, List.setIfInBounds_toArray, List.set_cons_zero, List.set_cons_succ]
  refine wpG_takeB (i := 3) (oi := ⟨some 16, _, _, _, _, _⟩) (v := .int .i64 y) rfl (by kernel_rfl) (by kernel_rfl) (by kernel_rfl) (by decide) (fun _ _ _ h => h) h01 rfl hHeld (Or.inl ⟨by rfl, ?_⟩) ?_
  · (intro W9 hSw; have g1 := HS1.out; have g2 := HI4.out; go_simp; (try (first | with_reducible rfl | rfl | exact hSw | (rw [IntKind.wrap_i64]; have := HY.out; omega) | (simp; done))))
  try simp only [Act.put, List.setIfInBounds_toArray, List.set_cons_zero, List.set_cons_succ]
  refine wpG_takeB (i := 4) (oi := ⟨some 17, _, _, _, _, _⟩) (v := .slice (some ⟨b, o, none⟩) n c) rfl (by kernel_rfl) (by kernel_rfl) (by kernel_rfl) (by decide) (fun _ _ _ h => h) h01 rfl hHeld (Or.inl ⟨by rfl, ?_⟩) ?_
  · (intro W9 hSw; have g1 := HS1.out; have g2 := HI4.out; go_simp; (try (first | with_reducible rfl | rfl | exact hSw | (rw [IntKind.wrap_i64]; have := HY.out; omega) | (simp; done))))
  try simp only [Act.put, List.setIfInBounds_toArray, List.set_cons_zero, List.set_cons_succ]
  refine wpG_takeB (i := 5) (oi := ⟨some 18, _, _, _, _, _⟩) (v := .slice A1 2 c1) rfl (by kernel_rfl) (by kernel_rfl) (by kernel_rfl) (by decide) (fun _ _ _ h => h) h01 rfl hHeld (Or.inl ⟨by rfl, ?_⟩) ?_
  · (intro W9 hSw; have g1 := HS1.out; have g2 := HI4.out; go_simp; (try (first | with_reducible rfl | rfl | exact hSw | (rw [IntKind.wrap_i64]; have := HY.out; omega) | (simp; done))))
  try simp only [Act.put, List.setIfInBounds_toArray, List.set_cons_zero, List.set_cons_succ]
  refine wpG_oneB (i := 6) (o := ⟨some 19, _, _, _, _, _⟩) (by kernel_rfl) rfl rfl (fun K hK => ?_)
  go_simp
  (with_reducible refine C44.out.mono ?_); rintro e w' ⟨rfl, hw⟩; replace hw := hw.symm; subst hw
  refine hK.out _ _ K4.out (fun hHeld => ?_)
  clear hK K
  try simp only [Act.put, List.setIfInBounds_toArray, List.set_cons_zero, List.set_cons_succ]
  refine wpG_takeB (i := 7) (oi := ⟨some 5, _, _, _, _, _⟩) (v := .int .i64 y) rfl (by kernel_rfl) (by kernel_rfl) (by kernel_rfl) (by decide) (fun _ _ _ h => h) h01 rfl hHeld (Or.inl ⟨by rfl, ?_⟩) ?_
  · (intro W9 hSw; have g1 := HS1.out; have g2 := HI4.out; go_simp; (try (first | with_reducible rfl | rfl | exact hSw | (rw [IntKind.wrap_i64]; have := HY.out; omega) | (simp; done))))
  try simp only [Act.put, List.setIfInBounds_toArray, List.set_cons_zero, List.set_cons_succ]
  refine wpG_takeB (i := 8) (oi := ⟨some 6, _, _, _, _, _⟩) (v := .int .i64 X) rfl (by kernel_rfl) (by kernel_rfl) (by kernel_rfl) (by decide) (fun _ _ _ h => h) h01 rfl hHeld (Or.inl ⟨by rfl, ?_⟩) ?_
  · (intro W9 hSw; have g1 := HS1.out; have g2 := HI4.out; go_simp; (try (first | with_reducible rfl | rfl | exact hSw | (rw [IntKind.wrap_i64]; have := HY.out; omega) | (simp; done))))
  try simp only [Act.put, List.setIfInBounds_toArray, List.set_cons_zero, List.set_cons_succ]
  refine wpG_done (by kernel_rfl) ?_ _
  clear hHeld h01
  have hd2 := dec_2 (l := l) (by rw [HLN.out]; have := HH7.out; omega)
  rw [HY.out.1, HS.out, HD.out] at hd2
  have HD2 := Lib.hid hd2
  clear hd2
  have hcv := conv_RB (HR4.out.below (below_drew (Below.refl _ w)))
  have hy0 : 0 ≤ y := by have := HY.out.2.1; omega
  have hX0 : 0 ≤ X := by have := HXS.out.1; omega
  have hy1 : y < 256 := by have := HY.out.2; omega
  have hX1 : X < 65536 := by have := HXS.out; omega
  have g4 := HS4.out
  by_cases hmag : l.take 4 = magicB
  case neg =>
    have HF := Lib.hid (HD2.out fun h => hmag h.1)
    have q1 : (l.take 4 != [80, 66, 75, 49]) = true := by simpa [magicB] using hmag
    have q1' : (l.take 4 == [80, 66, 75, 49]) = false := by simpa [magicB] using hmag
    go_wp2_with fail
    go_ret3
    exact ⟨below_drew (Below.refl _ _), .inl ⟨6, HF.out, rfl⟩⟩
  case pos =>
  have q1 : (l.take 4 != [80, 66, 75, 49]) = false := by simpa [magicB] using hmag
  have q1' : (l.take 4 == [80, 66, 75, 49]) = true := by simpa [magicB] using hmag
  by_cases hy2 : y < 1
  case pos =>
    have HF := Lib.hid (HD2.out fun h => by have := HY.out.2.1; omega)
    have q2 : decide (y < 1) = true := decide_eq_true hy2
    clear hy2
    go_wp2_with fail
    go_ret3
    exact ⟨below_drew (Below.refl _ _), .inl ⟨6, HF.out, rfl⟩⟩
  case neg =>
  have q2 : decide (y < 1) = false := decide_eq_false hy2
  by_cases hy3 : 64 < y
  case pos =>
    have HF := Lib.hid (HD2.out fun h => by have := HY.out.2.1; omega)
    have q3 : decide (64 < y) = true := decide_eq_true hy3
    clear hy3
    go_wp2_with fail
    go_ret3
    exact ⟨below_drew (Below.refl _ _), .inl ⟨6, HF.out, rfl⟩⟩
  case neg =>
  have q3 : decide (64 < y) = false := decide_eq_false hy3
  by_cases hx3 : 8192 < X
  case pos =>
    have HF := Lib.hid (HD2.out fun h => by have := HXS.out.1; omega)
    have q4 : decide (8192 < X) = true := decide_eq_true hx3
    clear hx3
    go_wp2_with fail
    go_ret3
    exact ⟨below_drew (Below.refl _ _), .inl ⟨6, HF.out, rfl⟩⟩
  case neg =>
  have q4 : decide (8192 < X) = false := decide_eq_false hx3
  obtain ⟨p, hp⟩ : ∃ p, padN (7 + S) = p := ⟨_, rfl⟩
  have HD3 := Lib.hid (dec_3 (l := l) (by rw [HLN.out]; have := HH7.out; omega) HY.out.1 HS.out hp ⟨hmag, by have := HY.out.2.1; omega, by have := HY.out.2.1; omega, by have := HXS.out.1; omega⟩)
  rw [HD.out] at HD3
  have hp2 : p % 4 = 0 ∧ 7 + S ≤ p ∧ p ≤ 7 + S + 3 := by rw [← hp]; unfold padN; omega
  obtain ⟨P, hP⟩ : ∃ P : Int, (p : Int) = P := ⟨_, rfl⟩
  have HP := Lib.hid (And.intro hP hp2)
  have hP0 : 0 ≤ P := by omega
  have hP1 : P ≤ 9000 := by have := HXS.out.1; omega
  have HXY := Lib.hid (show 0 ≤ y ∧ 1 ≤ y ∧ y ≤ 64 ∧ 0 ≤ X ∧ X ≤ 8192 by omega)
  clear hp hp2 hP HD2 hmag
  go_wp2_with fail
  go_loopw [7] (fun ee wr => ∃ m : Int, ee = .int .i64 m ∧ 7 + X ≤ m ∧ m ≤ P ∧ wr = w.drew) (fun ee _ => (P - intOf ee).toNat)
  case atStart => exact ⟨7 + X, by first | rfl | go_num, by omega, by have := HP.out; have := HXS.out.1; omega, rfl⟩
  case round =>
  obtain ⟨m, rfl, hm1, hm2, rfl⟩ := hrel
  have hm0 : 0 ≤ m := by omega
  by_cases hmp : m = P
  case neg =>
    have q5 : (m % 4 != 0) = true := by have := HP.out; have := HXS.out.1; simp; omega
    have q6 : (m % 4 == 0) = false := by have := HP.out; have := HXS.out.1; simp; omega
    have HMP := Lib.hid (show m < P by omega)
    clear hmp
    go_wp2_with fail
    go_roundw
    case rel => exact ⟨m + 1, by first | rfl | go_num, by omega, by have := HMP.out; omega, by first | rfl | trivial⟩
    case measure => have := HMP.out; simp [intOf]; omega
  case pos =>
  obtain rfl : P = m := hmp.symm
  have q5 : (P % 4 != 0) = false := by have := HP.out; simp; omega
  have q6 : (P % 4 == 0) = true := by have := HP.out; simp; omega
  clear hm1 hm2 hm0 hmp
  have HBW := Lib.hid (show Below w.heap.size w w.drew from below_drew (Below.refl _ _))
  by_cases hE : (n : Int) < P + 4
  case pos =>
    have HF := Lib.hid (show D = .error 4 by rw [HD3.out, if_pos (by rw [HLN.out]; have := HP.out.1; omega)])
    have q7 : decide ((n : Int) < P + 4) = true := decide_eq_true hE
    clear hE
    go_wp2_with fail
    go_ret3
    exact ⟨HBW.out, .inl ⟨4, HF.out, rfl⟩⟩
  case neg =>
  have q7 : decide ((n : Int) < P + 4) = false := decide_eq_false hE
  have HPN := Lib.hid (show p + 4 ≤ n by have := HP.out.1; omega)
  have HD4 := HD3.out
  rw [if_neg (by rw [HLN.out]; have := HP.out.1; omega)] at HD4
  obtain ⟨A, hA⟩ : ∃ A : Option Addr, some ⟨b, o, none⟩ = A := ⟨_, rfl⟩
  rw [hA] at HR ⊢
  have e7 : ((7 + S : Nat) : Int) = 7 + X := by have := HXS.out.1; omega
  obtain ⟨A7, c7, hs7, hr7, -⟩ := slice_in w A n c 7 (7 + S) l HR.out (by omega) (by have := HP.out; have := HPN.out; omega)
  obtain ⟨A9, c9, hs9, hr9, -⟩ := slice_in w A n c (7 + S) p l HR.out (by have := HP.out; omega) (by have := HPN.out; omega)
  obtain ⟨A10, c10, hs10, hr10, -⟩ := slice_to w A n c p l HR.out (by have := HPN.out; omega)
  obtain ⟨A11, c11, hs11, hr11, -⟩ := slice_in w A n c p (p + 4) l HR.out (by omega) HPN.out
  have eS : 7 + S - 7 = S := by omega
  have eP : ((p : Nat) : Int) = P := HP.out.1
  have eP4 : ((p + 4 : Nat) : Int) = P + 4 := by omega
  have e4 : p + 4 - p = 4 := by omega
  rw [eS] at hs7 hr7
  rw [e7] at hs7 hs9
  rw [eP] at hs9 hs10 hs11
  rw [eP4] at hs11
  rw [e4] at hs11 hr11
  obtain ⟨n9, hn9⟩ : ∃ n9, p - (7 + S) = n9 := ⟨_, rfl⟩
  rw [hn9] at hs9 hr9
  have HS7 : Hid (∀ W' : World, (Instr.slice 23 (.slice A n c) (some (.int .i64 7)) (some (.int .i64 (7 + X))) none).run Try.prog W' = .ok (.slice A7 S c7) W') := Lib.hid hs7
  have HS9 : Hid (∀ W' : World, (Instr.slice 23 (.slice A n c) (some (.int .i64 (7 + X))) (some (.int .i64 P)) none).run Try.prog W' = .ok (.slice A9 n9 c9) W') := Lib.hid hs9
  have HS10 : Hid (∀ W' : World, (Instr.slice 23 (.slice A n c) none (some (.int .i64 P)) none).run Try.prog W' = .ok (.slice A10 p c10) W') := Lib.hid hs10
  have HS11 : Hid (∀ W' : World, (Instr.slice 23 (.slice A n c) (some (.int .i64 P)) (some (.int .i64 (P + 4))) none).run Try.prog W' = .ok (.slice A11 4 c11) W') := Lib.hid hs11
  have HR9 := Lib.hid hr9
  have HR10 := Lib.hid hr10
  have HR11 := Lib.hid hr11
  have HN9 := Lib.hid (show n9 ≤ 3 by have := HP.out; omega)
  have HPP := Lib.hid (show p ≤ 9000 by have := HP.out; omega)
  have HW4 : Hid (IntKind.i64.wrap (P + 4) = P + 4) := Lib.hid (by rw [IntKind.wrap_i64]; omega)
  have C45 := rpackets_any A7 S c7 _ Y w.drew (hr7.below HBW.out) (by have := HP.out; omega) (by have := HY.out.2.1; have := HXY.out; omega)
  rw [HY.out.2.1] at C45
  obtain ⟨ph, hph⟩ : ∃ ph : List UInt8, (l.take (7 + S)).drop 7 = ph := ⟨_, rfl⟩
  rw [hph] at C45 HD4
  have C45 := Lib.hid C45
  have HD4 := Lib.hid HD4
  have g7 := HS7.out
  have g9 := HS9.out
  clear hs7 hs9 hs10 hs11 hr7 hr9 hr10 hr11 eS e7 eP eP4 e4 hn9 hA hph K4 HS1 HI4 HS4 HR4 hE
  by_cases hgood : ∃ q, packs ph Y = some q ∧ fitsP q = true
  case neg =>
    have C45n := Lib.hid (C45.out.mono (R' := fun e w' => ∃ v, e = .returned (.tuple #[v, .bool false]) ∧ Below w.drew.heap.size w.drew w') fun e w' h => by
      obtain ⟨hb, v, ok, ds, h1, h2, h3⟩ := h
      cases ok with
      | true => exact absurd ⟨_, (h2 rfl).2.1, (h2 rfl).2.2⟩ hgood
      | false => exact ⟨v, h1, hb⟩)
    have HF := Lib.hid (show D = .error 6 by
      rw [HD4.out]
      cases hpk : packs ph Y with
      | none => rfl
      | some q =>
        simp only
        rw [if_neg fun h => hgood ⟨q, hpk, h.1⟩])
    clear hgood
    go_wp2_with (go_at_call 45; (with_reducible refine C45n.out.mono ?_); rintro e w4 ⟨v4, rfl, b4⟩; have HB4 := Lib.hid (HBW.out.trans (b4.mono HBW.out.size)); clear b4)
    go_ret3
    exact ⟨HB4.out, .inl ⟨6, HF.out, rfl⟩⟩
  case pos =>
  obtain ⟨q, hpk, hfit⟩ := hgood
  have C45s := Lib.hid (C45.out.mono (R' := fun e w' => ∃ A8 c8 ds, e = .returned (.tuple #[.slice A8 ds.length c8, .bool true]) ∧ Below w.drew.heap.size w.drew w' ∧ PO w.drew.heap.size w' (.slice A8 ds.length c8) ds ∧ q = pks ds) fun e w' h => by
    obtain ⟨hb, v, ok, ds, h1, h2, h3⟩ := h
    cases ok with
    | true =>
      obtain ⟨h4, h5, h6⟩ := h2 rfl
      obtain ⟨A8, c8, rfl⟩ := h4.form
      rw [hpk] at h5
      exact ⟨A8, c8, ds, h1, hb, h4, by cases h5; rfl⟩
    | false => rw [h3 rfl q hpk] at hfit; cases hfit)
  have HD5 := Lib.hid (show D = if num ((l.take p).drop (7 + S)) = 0 then (if be (adlN (l.take p)) 4 = (l.take (p + 4)).drop p then .ok (q, p + 4) else .error 10) else .error 6 by
    rw [HD4.out, hpk]
    simp only [hfit, true_and])
  clear hpk hfit
  obtain ⟨zz, hzz⟩ : ∃ zz, num ((l.take p).drop (7 + S)) = zz := ⟨_, rfl⟩
  have C44z := Lib.hid (fun (W : World) (hb : Below w.heap.size w W) => rget_any A9 n9 c9 _ W (HR9.out.below hb) (by have := HN9.out; omega))
  rw [hzz] at C44z HD5
  clear hzz
  by_cases hz0 : zz = 0
  case neg =>
    have q8 : ((zz : Int) != 0) = true := by simp; omega
    have q9 : ((zz : Int) == 0) = false := by simp; omega
    have HF := Lib.hid (show D = .error 6 by rw [HD5.out, if_neg hz0])
    clear hz0
    go_wp2_with (first | (go_at_call 45; (with_reducible refine C45s.out.mono ?_); rintro e w4 ⟨A8, c8, ds, rfl, b4, hpo, hq⟩; have HB4 := Lib.hid (HBW.out.trans (b4.mono HBW.out.size)); clear b4 hpo hq) | (go_at_call 44; (with_reducible refine (C44z.out _ HB4.out).mono ?_); rintro e w' ⟨rfl, hw⟩; replace hw := hw.symm; subst hw))
    go_ret3
    exact ⟨HB4.out, .inl ⟨6, HF.out, rfl⟩⟩
  case pos =>
  subst hz0
  have HD6 := Lib.hid (show D = if be (adlN (l.take p)) 4 = (l.take (p + 4)).drop p then .ok (q, p + 4) else .error 10 by rw [HD5.out, if_pos rfl])
  have HIF := Lib.hid (be_eq_iff (a := adlN (l.take p)) (y := (l.take (p + 4)).drop p) (adlN_cast _).2 HR11.out.len)
  have C44s0 := fun (W : World) (hb : Below w.heap.size w W) => rget_any A11 4 c11 _ W (HR11.out.below hb) (by omega)
  have C380 := fun (W : World) (hb : Below w.heap.size w W) => adler_any A10 p c10 _ W (HR10.out.below hb) (by have := HPP.out; omega)
  obtain ⟨sm, hsm⟩ : ∃ sm, num ((l.take (p + 4)).drop p) = sm := ⟨_, rfl⟩
  obtain ⟨ad, had⟩ : ∃ ad, adlN (l.take p) = ad := ⟨_, rfl⟩
  rw [hsm] at C44s0 HIF
  rw [had] at C380 HIF HD6
  have C44s0 := Lib.hid C44s0
  have C380 := Lib.hid C380
  clear hsm had
  go_upto_region 14 with (first | (go_at_call 45; (with_reducible refine C45s.out.mono ?_); rintro e w4 ⟨A8, c8, ds, rfl, b4, hpo, hq⟩; have HB4 := Lib.hid (HBW.out.trans (b4.mono HBW.out.size)); have HPO := Lib.hid (hpo.below (show Below w4.heap.size w4 w4.drew from below_drew (Below.refl _ _))); have HQ := Lib.hid hq; clear b4 hpo hq) | (go_at_call 44; (with_reducible refine (C44z.out _ HB4.out).mono ?_); rintro e w' ⟨rfl, hw⟩; replace hw := hw.symm; subst hw))
  have C44s := Lib.hid (fun (W : World) (hb : Below w4.heap.size w4 W) => C44s0.out W (HB4.out.trans (hb.mono HB4.out.size)))
  have C38 := Lib.hid (fun (W : World) (hb : Below w4.heap.size w4 W) => C380.out W (HB4.out.trans (hb.mono HB4.out.size)))
  by_cases heq : sm = ad
  case neg =>
    have HEB := Lib.hid (show ((sm : Int) != (ad : Int)) = true by simp; omega)
    have HF := Lib.hid (show D = .error 10 by rw [HD6.out, if_neg (fun h => heq (HIF.out.1 h))])
    clear heq
    refine wp_region_G (S0 := (fun _ => True)) (S1 := (fun _ => True)) (c := 99) (by kernel_rfl) ?_
    have hHeld := trivial
    have h01 := (fun (W : World) (h : (fun _ => True) W) => h)
    refine wpG_takeB (i := 0) (oi := ⟨some 68, _, _, _, _, _⟩) (v := .slice A n c) rfl (by kernel_rfl) (by kernel_rfl) (by kernel_rfl) (by decide) (fun _ _ _ h => h) h01 rfl hHeld (Or.inl ⟨by rfl, ?_⟩) ?_
    · (intro W9 hSw; have g1 := HS10.out; have g2 := HS11.out; have g3 := HW4.out; have g4 := HEB.out; go_simp; (try (first | with_reducible rfl | rfl | (exact HW4.out) | (rw [HW4.out]; done) | (simp; done) | (simpa using HEB.out))))
    try simp only [Act.put, List.setIfInBounds_toArray, List.set_cons_zero, List.set_cons_succ]
    refine wpG_takeB (i := 1) (oi := ⟨some 69, _, _, _, _, _⟩) (v := .int .i64 P) rfl (by kernel_rfl) (by kernel_rfl) (by kernel_rfl) (by decide) (fun _ _ _ h => h) h01 rfl hHeld (Or.inl ⟨by rfl, ?_⟩) ?_
    · (intro W9 hSw; have g1 := HS10.out; have g2 := HS11.out; have g3 := HW4.out; have g4 := HEB.out; go_simp; (try (first | with_reducible rfl | rfl | (exact HW4.out) | (rw [HW4.out]; done) | (simp; done) | (simpa using HEB.out))))
    try simp only [Act.put, List.setIfInBounds_toArray, List.set_cons_zero, List.set_cons_succ]
    refine wpG_takeB (i := 2) (oi := ⟨some 70, _, _, _, _, _⟩) (v := .int .i64 P) rfl (by kernel_rfl) (by kernel_rfl) (by kernel_rfl) (by decide) (fun _ _ _ h => h) h01 rfl hHeld (Or.inl ⟨by rfl, ?_⟩) ?_
    · (intro W9 hSw; have g1 := HS10.out; have g2 := HS11.out; have g3 := HW4.out; have g4 := HEB.out; go_simp; (try (first | with_reducible rfl | rfl | (exact HW4.out) | (rw [HW4.out]; done) | (simp; done) | (simpa using HEB.out))))
    try simp only [Act.put, List.setIfInBounds_toArray, List.set_cons_zero, List.set_cons_succ]
    refine wpG_takeB (i := 3) (oi := ⟨some 71, _, _, _, _, _⟩) (v := .int .i64 (P + 4)) rfl (by kernel_rfl) (by kernel_rfl) (by kernel_rfl) (by decide) (fun _ _ _ h => h) h01 rfl hHeld (Or.inl ⟨by rfl, ?_⟩) ?_
    · (intro W9 hSw; have g1 := HS10.out; have g2 := HS11.out; have g3 := HW4.out; have g4 := HEB.out; go_simp; (try (first | with_reducible rfl | rfl | (exact HW4.out) | (rw [HW4.out]; done) | (simp; done) | (simpa using HEB.out))))
    try simp only [Act.put, List.setIfInBounds_toArray, List.set_cons_zero, List.set_cons_succ]
    refine wpG_takeB (i := 4) (oi := ⟨some 72, _, _, _, _, _⟩) (v := .slice A11 4 c11) rfl (by kernel_rfl) (by kernel_rfl) (by kernel_rfl) (by decide) (fun _ _ _ h => h) h01 rfl hHeld (Or.inl ⟨by rfl, ?_⟩) ?_
    · (intro W9 hSw; have g1 := HS10.out; have g2 := HS11.out; have g3 := HW4.out; have g4 := HEB.out; go_simp; (try (first | with_reducible rfl | rfl | (exact HW4.out) | (rw [HW4.out]; done) | (simp; done) | (simpa using HEB.out))))
    try simp only [Act.put, List.setIfInBounds_toArray, List.set_cons_zero, List.set_cons_succ]
    refine wpG_takeB (i := 6) (oi := ⟨some 74, _, _, _, _, _⟩) (v := .slice A n c) rfl (by kernel_rfl) (by kernel_rfl) (by kernel_rfl) (by decide) (fun _ _ _ h => h) h01 rfl hHeld (Or.inl ⟨by rfl, ?_⟩) ?_
    · (intro W9 hSw; have g1 := HS10.out; have g2 := HS11.out; have g3 := HW4.out; have g4 := HEB.out; go_simp; (try (first | with_reducible rfl | rfl | (exact HW4.out) | (rw [HW4.out]; done) | (simp; done) | (simpa using HEB.out))))
    try simp only [Act.put, List.setIfInBounds_toArray, List.set_cons_zero, List.set_cons_succ]
    refine wpG_takeB (i := 7) (oi := ⟨some 75, _, _, _, _, _⟩) (v := .int .i64 P) rfl (by kernel_rfl) (by kernel_rfl) (by kernel_rfl) (by decide) (fun _ _ _ h => h) h01 rfl hHeld (Or.inl ⟨by rfl, ?_⟩) ?_
    · (intro W9 hSw; have g1 := HS10.out; have g2 := HS11.out; have g3 := HW4.out; have g4 := HEB.out; go_simp; (try (first | with_reducible rfl | rfl | (exact HW4.out) | (rw [HW4.out]; done) | (simp; done) | (simpa using HEB.out))))
    try simp only [Act.put, List.setIfInBounds_toArray, List.set_cons_zero, List.set_cons_succ]
    refine wpG_takeB (i := 8) (oi := ⟨some 76, _, _, _, _, _⟩) (v := .slice A10 p c10) rfl (by kernel_rfl) (by kernel_rfl) (by kernel_rfl) (by decide) (fun _ _ _ h => h) h01 rfl hHeld (Or.inl ⟨by rfl, ?_⟩) ?_
    · (intro W9 hSw; have g1 := HS10.out; have g2 := HS11.out; have g3 := HW4.out; have g4 := HEB.out; go_simp; (try (first | with_reducible rfl | rfl | (exact HW4.out) | (rw [HW4.out]; done) | (simp; done) | (simpa using HEB.out))))
    try simp only [Act.put, List.setIfInBounds_toArray, List.set_cons_zero, List.set_cons_succ]
    refine wpG_oneB (i := 5) (o := ⟨some 73, _, _, _, _, _⟩) (by kernel_rfl) rfl rfl (fun K hK => ?_)
    go_simp
    (with_reducible refine (C44s.out _ (below_drew (Below.refl _ _))).mono ?_); rintro e w' ⟨rfl, hw⟩; replace hw := hw.symm; subst hw
    refine hK.out _ _ trivial (fun hHeld => ?_)
    clear hK K
    try simp only [Act.put, List.setIfInBounds_toArray, List.set_cons_zero, List.set_cons_succ]
    refine wpG_oneB (i := 9) (o := ⟨some 77, _, _, _, _, _⟩) (by kernel_rfl) rfl rfl (fun K hK => ?_)
    go_simp
    (with_reducible refine (C38.out _ (below_drew (Below.refl _ _))).mono ?_); rintro e w' ⟨rfl, hw⟩; replace hw := hw.symm; subst hw
    refine hK.out _ _ trivial (fun hHeld => ?_)
    clear hK K
    try simp only [Act.put, List.setIfInBounds_toArray, List.set_cons_zero, List.set_cons_succ]
    refine wpG_takeB (i := 10) (oi := ⟨some 78, _, _, _, _, _⟩) (v := .bool true) rfl (by kernel_rfl) (by kernel_rfl) (by kernel_rfl) (by decide) (fun _ _ _ h => h) h01 rfl hHeld (Or.inl ⟨by rfl, ?_⟩) ?_
    · (intro W9 hSw; have g1 := HS10.out; have g2 := HS11.out; have g3 := HW4.out; have g4 := HEB.out; go_simp; (try (first | with_reducible rfl | rfl | (exact HW4.out) | (rw [HW4.out]; done) | (simp; done) | (simpa using HEB.out))))
    try simp only [Act.put, List.setIfInBounds_toArray, List.set_cons_zero, List.set_cons_succ]
    refine wpG_done (by kernel_rfl) ?_ _
    clear hHeld h01
    go_wp2_with fail
    go_ret3
    exact ⟨below_drew HB4.out, .inl ⟨10, HF.out, rfl⟩⟩
  case pos =>
    have HEB := Lib.hid (show ((sm : Int) != (ad : Int)) = false by simp; omega)
    have HF := Lib.hid (show D = .ok (q, p + 4) by rw [HD6.out, if_pos (HIF.out.2 heq)])
    clear heq
    refine wp_region_G (S0 := (fun _ => True)) (S1 := (fun _ => True)) (c := 99) (by kernel_rfl) ?_
    have hHeld := trivial
    have h01 := (fun (W : World) (h : (fun _ => True) W) => h)
    refine wpG_takeB (i := 0) (oi := ⟨some 68, _, _, _, _, _⟩) (v := .slice A n c) rfl (by kernel_rfl) (by kernel_rfl) (by kernel_rfl) (by decide) (fun _ _ _ h => h) h01 rfl hHeld (Or.inl ⟨by rfl, ?_⟩) ?_
    · (intro W9 hSw; have g1 := HS10.out; have g2 := HS11.out; have g3 := HW4.out; have g4 := HEB.out; go_simp; (try (first | with_reducible rfl | rfl | (exact HW4.out) | (rw [HW4.out]; done) | (simp; done) | (simpa using HEB.out))))
    try simp only [Act.put, List.setIfInBounds_toArray, List.set_cons_zero, List.set_cons_succ]
    refine wpG_takeB (i := 1) (oi := ⟨some 69, _, _, _, _, _⟩) (v := .int .i64 P) rfl (by kernel_rfl) (by kernel_rfl) (by kernel_rfl) (by decide) (fun _ _ _ h => h) h01 rfl hHeld (Or.inl ⟨by rfl, ?_⟩) ?_
    · (intro W9 hSw; have g1 := HS10.out; have g2 := HS11.out; have g3 := HW4.out; have g4 := HEB.out; go_simp; (try (first | with_reducible rfl | rfl | (exact HW4.out) | (rw [HW4.out]; done) | (simp; done) | (simpa using HEB.out))))
    try simp only [Act.put, List.setIfInBounds_toArray, List.set_cons_zero, List.set_cons_succ]
    refine wpG_takeB (i := 2) (oi := ⟨some 70, _, _, _, _, _⟩) (v := .int .i64 P) rfl (by kernel_rfl) (by kernel_rfl) (by kernel_rfl) (by decide) (fun _ _ _ h => h) h01 rfl hHeld (Or.inl ⟨by rfl, ?_⟩) ?_
    · (intro W9 hSw; have g1 := HS10.out; have g2 := HS11.out; have g3 := HW4.out; have g4 := HEB.out; go_simp; (try (first | with_reducible rfl | rfl | (exact HW4.out) | (rw [HW4.out]; done) | (simp; done) | (simpa using HEB.out))))
    try simp only [Act.put, List.setIfInBounds_toArray, List.set_cons_zero, List.set_cons_succ]
    refine wpG_takeB (i := 3) (oi := ⟨some 71, _, _, _, _, _⟩) (v := .int .i64 (P + 4)) rfl (by kernel_rfl) (by kernel_rfl) (by kernel_rfl) (by decide) (fun _ _ _ h => h) h01 rfl hHeld (Or.inl ⟨by rfl, ?_⟩) ?_
    · (intro W9 hSw; have g1 := HS10.out; have g2 := HS11.out; have g3 := HW4.out; have g4 := HEB.out; go_simp; (try (first | with_reducible rfl | rfl | (exact HW4.out) | (rw [HW4.out]; done) | (simp; done) | (simpa using HEB.out))))
    try simp only [Act.put, List.setIfInBounds_toArray, List.set_cons_zero, List.set_cons_succ]
    refine wpG_takeB (i := 4) (oi := ⟨some 72, _, _, _, _, _⟩) (v := .slice A11 4 c11) rfl (by kernel_rfl) (by kernel_rfl) (by kernel_rfl) (by decide) (fun _ _ _ h => h) h01 rfl hHeld (Or.inl ⟨by rfl, ?_⟩) ?_
    · (intro W9 hSw; have g1 := HS10.out; have g2 := HS11.out; have g3 := HW4.out; have g4 := HEB.out; go_simp; (try (first | with_reducible rfl | rfl | (exact HW4.out) | (rw [HW4.out]; done) | (simp; done) | (simpa using HEB.out))))
    try simp only [Act.put, List.setIfInBounds_toArray, List.set_cons_zero, List.set_cons_succ]
    refine wpG_takeB (i := 6) (oi := ⟨some 74, _, _, _, _, _⟩) (v := .slice A n c) rfl (by kernel_rfl) (by kernel_rfl) (by kernel_rfl) (by decide) (fun _ _ _ h => h) h01 rfl hHeld (Or.inl ⟨by rfl, ?_⟩) ?_
    · (intro W9 hSw; have g1 := HS10.out; have g2 := HS11.out; have g3 := HW4.out; have g4 := HEB.out; go_simp; (try (first | with_reducible rfl | rfl | (exact HW4.out) | (rw [HW4.out]; done) | (simp; done) | (simpa using HEB.out))))
    try simp only [Act.put, List.setIfInBounds_toArray, List.set_cons_zero, List.set_cons_succ]
    refine wpG_takeB (i := 7) (oi := ⟨some 75, _, _, _, _, _⟩) (v := .int .i64 P) rfl (by kernel_rfl) (by kernel_rfl) (by kernel_rfl) (by decide) (fun _ _ _ h => h) h01 rfl hHeld (Or.inl ⟨by rfl, ?_⟩) ?_
    · (intro W9 hSw; have g1 := HS10.out; have g2 := HS11.out; have g3 := HW4.out; have g4 := HEB.out; go_simp; (try (first | with_reducible rfl | rfl | (exact HW4.out) | (rw [HW4.out]; done) | (simp; done) | (simpa using HEB.out))))
    try simp only [Act.put, List.setIfInBounds_toArray, List.set_cons_zero, List.set_cons_succ]
    refine wpG_takeB (i := 8) (oi := ⟨some 76, _, _, _, _, _⟩) (v := .slice A10 p c10) rfl (by kernel_rfl) (by kernel_rfl) (by kernel_rfl) (by decide) (fun _ _ _ h => h) h01 rfl hHeld (Or.inl ⟨by rfl, ?_⟩) ?_
    · (intro W9 hSw; have g1 := HS10.out; have g2 := HS11.out; have g3 := HW4.out; have g4 := HEB.out; go_simp; (try (first | with_reducible rfl | rfl | (exact HW4.out) | (rw [HW4.out]; done) | (simp; done) | (simpa using HEB.out))))
    try simp only [Act.put, List.setIfInBounds_toArray, List.set_cons_zero, List.set_cons_succ]
    refine wpG_oneB (i := 5) (o := ⟨some 73, _, _, _, _, _⟩) (by kernel_rfl) rfl rfl (fun K hK => ?_)
    go_simp
    (with_reducible refine (C44s.out _ (below_drew (Below.refl _ _))).mono ?_); rintro e w' ⟨rfl, hw⟩; replace hw := hw.symm; subst hw
    refine hK.out _ _ trivial (fun hHeld => ?_)
    clear hK K
    try simp only [Act.put, List.setIfInBounds_toArray, List.set_cons_zero, List.set_cons_succ]
    refine wpG_oneB (i := 9) (o := ⟨some 77, _, _, _, _, _⟩) (by kernel_rfl) rfl rfl (fun K hK => ?_)
    go_simp
    (with_reducible refine (C38.out _ (below_drew (Below.refl _ _))).mono ?_); rintro e w' ⟨rfl, hw⟩; replace hw := hw.symm; subst hw
    refine hK.out _ _ trivial (fun hHeld => ?_)
    clear hK K
    try simp only [Act.put, List.setIfInBounds_toArray, List.set_cons_zero, List.set_cons_succ]
    refine wpG_takeB (i := 10) (oi := ⟨some 78, _, _, _, _, _⟩) (v := .bool false) rfl (by kernel_rfl) (by kernel_rfl) (by kernel_rfl) (by decide) (fun _ _ _ h => h) h01 rfl hHeld (Or.inl ⟨by rfl, ?_⟩) ?_
    · (intro W9 hSw; have g1 := HS10.out; have g2 := HS11.out; have g3 := HW4.out; have g4 := HEB.out; go_simp; (try (first | with_reducible rfl | rfl | (exact HW4.out) | (rw [HW4.out]; done) | (simp; done) | (simpa using HEB.out))))
    try simp only [Act.put, List.setIfInBounds_toArray, List.set_cons_zero, List.set_cons_succ]
    refine wpG_done (by kernel_rfl) ?_ _
    clear hHeld h01
    go_wp2_with fail
    go_ret3
    refine ⟨below_drew HB4.out, .inr ⟨_, ds, p + 4, by rw [HF.out, HQ.out], ?_, HPO.out⟩⟩
    have := HP.out.1
    rw [show ((p + 4 : Nat) : Int) = P + 4 by omega]
    rfl
end Go.Proofs.Ytgbkoegmoelheaa
