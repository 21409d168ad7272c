/- The walk of FoldWrites. -/
import Derived.Test.YtkalllenggmgoaaDoorFu
import Derived.Test.YtkalllenggmgoaaDoorHr
namespace Go.Proofs.YtkalllenggmgoaaDoor
open Go.RowKit
set_option linter.unusedVariables false
set_option linter.unusedSimpArgs false

theorem hd_one (l : List Hd) : ∀ u ∈ l.flatMap Hd.cells, u.oneCell' = true := fun u hu => by
  obtain ⟨p, -, hp⟩ := List.mem_flatMap.1 hu
  simp [Hd.cells] at hp
  rcases hp with rfl | rfl <;> rfl
theorem own_HL' {w : World} {B n : Nat} {v : Value} {hs : List Hd} (h : w.ownsRow B 25 2 v n (hs.flatMap Hd.cells)) (hn : hs.length = n) : ∃ A c, v = .slice A n c ∧ HL w A n c hs := by
  obtain ⟨A, c, rfl, h1, h2, h3, h4⟩ := own_formS h
  exact ⟨A, c, rfl, hn, HoldsS.own h, h1, h2, fun e => (h3 e).2⟩
theorem HoldsS.alloc_ {w : World} {size m : Nat} {A : Option Addr} {xs : List Value} (h : HoldsS w size A m xs) (o : Obj) : HoldsS (w.alloc o) size A m xs := h.keep ((Below.refl w.heap.size w).alloc (Nat.le_refl _) o)
/-- A copy of a list of headers. -/
theorem app_hd (w : World) (A : Option Addr) (n c : Nat) (l : List Hd) (h : HL w A n c l) (hn : n ≤ 1000) :
    ∃ A2 c2 W2, (Builtin.append_ #[22, 22] 22 #[.slice (some ⟨w.heap.size, 0, none⟩) 0 0, .slice A n c]).run Tryd.prog (w.alloc (.cells #[] 25)) = .ok (.slice A2 n c2) W2 ∧ HL W2 A2 n c2 l ∧ Below w.heap.size w W2 := by
  have own0 : (w.alloc (.cells #[] 25)).ownsRow w.heap.size 25 2 (.slice (some ⟨w.heap.size, 0, none⟩) 0 0) 0 [] := World.ownsRow_made w #[] 0 (Nat.le_refl _) (by decide) (by simp)
  have hb0 : Below w.heap.size w (w.alloc (.cells #[] 25)) := (Below.refl w.heap.size w).alloc (Nat.le_refl _) _
  cases A with
  | none =>
    have h0 : n = 0 := h.h.2.1 rfl
    subst h0
    obtain rfl : l = [] := List.eq_nil_of_length_eq_zero h.len
    obtain rfl := h.z rfl
    refine ⟨some ⟨w.heap.size, 0, none⟩, 0, w.alloc (.cells #[] 25), ?_, ⟨rfl, ⟨rfl, fun h => (by cases h), fun b hb j u hu => by simp at hu⟩, Nat.le_refl _, by unfold maxLen; omega, fun h => by cases h⟩, hb0⟩
    obtain ⟨i, z, hi, hz, hs, hb, hzs⟩ := elH.i
    simp [Builtin.append_, run_underlying elH.t, sizeOf, typeInfo, hi, Builtin.lenOf, Builtin.firstCells, storeCells]
  | some a =>
    obtain ⟨v', w', hrun, p1, p2⟩ := run_app_sz (P := Tryd.prog) (ty := 22) elH own0 (h.h.alloc_ (.cells #[] 25)) (hd_one l) (by unfold maxLen; omega) (by omega) (by simp) (by simp)
    rw [Nat.zero_add, List.nil_append] at p1
    obtain ⟨A2, c2, rfl, hl2⟩ := own_HL' p1 h.len
    exact ⟨A2, c2, w', hrun, hl2, below_own hb0 (by simp) own0 p2⟩
theorem bstr (sb : ByteArray) : (⟨sb.data.toList.toArray⟩ : ByteArray) = sb := by cases sb; simp
theorem take_all {p : Hd → Prop} {l : List Hd} {i : Nat} (h : ∀ x ∈ l.take i, p x) (hi : i < l.length) (hp : p l[i]) : ∀ x ∈ l.take (i + 1), p x := fun x hx => by
  rw [List.take_add_one, List.getElem?_eq_getElem hi] at hx
  rcases List.mem_append.1 hx with h1 | h1
  · exact h x h1
  · simp at h1; subst h1; exact hp

set_option maxRecDepth 100000 in
set_option maxHeartbeats 1000000 in
theorem writes_ok (A : Option Addr) (n c : Nat) (l : List Hd) (sb : ByteArray) (w : World) (h : HL w A n c l) (hn : (n : Int) ≤ 110) (hs : (sb.size : Int) ≤ 50) (hv : validL l = true) :
    Calls Tryd.prog 3 #[.slice A n c, .string sb] w fun e w' => e = .returned (.bool true) ∧ Below w.heap.size w w' := by
  have HP := Lib.hid h
  have HLEN := Lib.hid h.len
  have HV := Lib.hid hv
  have hnm : sb.data.toList.length ≤ 1000000 := by
    have := size_str sb.data.toList
    rw [bstr] at this
    omega
  have C14 := Lib.hid (fun W => name_any sb.data.toList W hnm)
  have C15 := Lib.hid (fun W => rname_any sb.data.toList W hnm)
  rw [bstr] at C14 C15
  generalize nameOk sb.data.toList = bn at *
  have C16 : Small l → Hid (∀ W A2 i c2 (_ : HL W A2 i c2 l), Calls Tryd.prog 16 #[.slice A2 i c2] W fun e w' => e = .returned (.bool true) ∧ Below W.heap.size W w') := fun hd => Lib.hid fun W A2 i c2 h2 => by have := validL_any A2 i c2 l W h2 (by have := h2.len; have := HLEN.out; omega) hd; rw [hv] at this; exact this
  have C17 : Small l → Hid (∀ W (_ : HL W A n c l), Calls Tryd.prog 17 #[.slice A n c] W fun e w' => e = .returned (.bool true) ∧ Below W.heap.size W w') := fun hd => Lib.hid fun W h2 => by have := rvalidL_any A n c l W h2 (by omega) hd; rw [hv] at this; exact this
  have C18 : Hid (∀ W A2 i c2 (_ : HL W A2 i c2 l) (_ : HL W A n c l), Calls Tryd.prog 18 #[.slice A2 i c2, .slice A n c] W fun e w' => e = .returned (.bool true) ∧ Below W.heap.size W w') := Lib.hid fun W A2 i c2 h2 h3 => by have := same_any A2 A i c2 n c l l W h2 h3 (by have := h2.len; have := HLEN.out; omega); rw [decide_eq_true rfl] at this; exact this
  have C19 : Small l → Hid (∀ W (_ : HL W A n c l), Calls Tryd.prog 19 #[.slice A n c] W fun e w' => ∃ ad cp, e = .returned (.slice (some ⟨ad, 0, none⟩) (writeL l).length cp) ∧ RB w' (some ⟨ad, 0, none⟩) (writeL l).length cp (writeL l) ∧ Below W.heap.size W w') := fun hd => Lib.hid fun W h2 => rwrite_ok A n c l W h2 (by omega) hd
  clear h hv hnm
  go_enter Tryd.func3, Tryd.ntmps3
  · go_upto_region 4 with fail
    go_loopw [5] (fun ii wr => ∃ i : Nat, (i : Int) ≤ n ∧ ii = .int .i64 i ∧ Hid (∀ x ∈ l.take i, x.n.length ≤ 50 ∧ x.t.length ≤ 200) ∧ Hid (Below w.heap.size w wr)) (fun ii _ => n - (intOf ii).toNat)
    case atStart => exact ⟨0, by omega, rfl, Lib.hid (fun x hx => by simp at hx), Lib.hid (Below.refl _ _)⟩
    case round =>
      obtain ⟨i, hi, rfl, HS, HBR⟩ := hrel
      by_cases hlt : (i : Int) < n
      · have hi1 : i < l.length := by rw [HLEN.out]; omega
        obtain ⟨b, o, e, hat⟩ := HP.out.at (by omega)
        subst e
        obtain ⟨f0, f1⟩ := (hat i hi1).below HBR.out
        have hs9 : ∀ (h1 : (l[i]).n.length ≤ 50) (h2 : (l[i]).t.length ≤ 200), ∀ x ∈ l.take (i + 1), x.n.length ≤ 50 ∧ x.t.length ≤ 200 := fun h1 h2 => take_all (p := fun x => x.n.length ≤ 50 ∧ x.t.length ≤ 200) HS.out hi1 ⟨h1, h2⟩
        have zn := size_str (l[i]).n
        have zt := size_str (l[i]).t
        have HS9 := Lib.hid hs9
        generalize l[i] = p at *
        generalize (⟨p.n.toArray⟩ : ByteArray) = sn at *
        generalize (⟨p.t.toArray⟩ : ByteArray) = st at *
        clear hat hs9 hi1
        by_cases hq1 : (50 : Int) < p.n.length
        · go_wp2_with (go_at_call 11; (with_reducible refine (known_any _).mono ?_); rintro e9 w9 ⟨rfl, hb9⟩; have HB9 := Lib.hid (HBR.out.trans (hb9.mono HBR.out.size)); clear hb9)
          go_ret
          exact ⟨rfl, HB9.out⟩
        · by_cases hq2 : (200 : Int) < p.t.length
          · go_wp2_with (go_at_call 11; (with_reducible refine (known_any _).mono ?_); rintro e9 w9 ⟨rfl, hb9⟩; have HB9 := Lib.hid (HBR.out.trans (hb9.mono HBR.out.size)); clear hb9)
            go_ret
            exact ⟨rfl, HB9.out⟩
          · go_wp2_with fail
            go_roundw
            case rel => exact ⟨i + 1, by omega, by go_num, Lib.hid (HS9.out (by omega) (by omega)), Lib.hid (by first | exact HBR.out | exact below_drewN HBR.out _)⟩
            case measure => simp [intOf]; omega
      · obtain rfl : i = n := by omega
        have HD : Hid (Small l) := Lib.hid (fun x hx => by have := HS.out x (by rw [List.take_of_length_le (by rw [HLEN.out]; omega)]; exact hx); omega)
        replace C16 := C16 HD.out
        replace C17 := C17 HD.out
        replace C19 := C19 HD.out
        obtain ⟨A2, c2, W2, hrun, hl2, hb2⟩ := app_hd wr A i c l (HP.out.below HBR.out) (by omega)
        have HB2 := Lib.hid (HBR.out.trans (hb2.mono HBR.out.size))
        have HL2 := Lib.hid hl2
        clear hl2 hb2 hi hlt
        go_upto_region 9 with (at_builtin; go_must (refine wpList_run rfl (.tmp 44) (.tmp 45) 22 rfl rfl rfl hrun ?_))
        clear hrun
        have HBW := HB2
        have HBX := Lib.hid (Below.refl W2.heap.size W2)
        have C12 := Lib.hid (write_ok A2 i c2 l W2 HL2.out HD.out HV.out)
        unfold Fresh at C12
        go_upto_region 10 with (go_at_call 12; (with_reducible refine C12.out.mono ?_); rintro e9 w9 ⟨v7, rfl, ho, hb9⟩; obtain ⟨A7, c7, e7, -⟩ := own_form ho; subst e7; have HO7 := Lib.hid ho; have HB7 := Lib.hid (Below.refl w9.heap.size w9); clear ho; replace HBW := Lib.hid (HBW.out.trans (hb9.mono HBW.out.size)); replace HBX := Lib.hid (HBX.out.trans (hb9.mono HBX.out.size)); clear hb9)
        have C13 := Lib.hid (length_ok A2 i c2 l w9 (HL2.out.below HBX.out) HD.out HV.out)
        go_upto_region 11 with (go_at_call 13; (with_reducible refine C13.out.mono ?_); rintro e9 w10 ⟨rfl, hb9⟩; replace HB7 := Lib.hid (HB7.out.trans (hb9.mono HB7.out.size)); replace HBW := Lib.hid (HBW.out.trans (hb9.mono HBW.out.size)); replace HBX := Lib.hid (HBX.out.trans (hb9.mono HBX.out.size)); clear hb9)
        go_upto_region 13 with (first | (go_at_call 14; (with_reducible refine (C14.out _).mono ?_); rintro e9 w9 ⟨rfl, hb9⟩; replace HB7 := Lib.hid (HB7.out.trans (hb9.mono HB7.out.size)); replace HBW := Lib.hid (HBW.out.trans (hb9.mono HBW.out.size)); replace HBX := Lib.hid (HBX.out.trans (hb9.mono HBX.out.size)); clear hb9) | (go_at_call 15; (with_reducible refine (C15.out _).mono ?_); rintro e9 w9 ⟨rfl, rfl⟩; skip) | (go_at_call 16; (with_reducible refine (C16.out _ _ _ _ (HL2.out.below HBX.out)).mono ?_); rintro e9 w9 ⟨rfl, hb9⟩; replace HB7 := Lib.hid (HB7.out.trans (hb9.mono HB7.out.size)); replace HBW := Lib.hid (HBW.out.trans (hb9.mono HBW.out.size)); replace HBX := Lib.hid (HBX.out.trans (hb9.mono HBX.out.size)); clear hb9) | (go_at_call 17; (with_reducible refine (C17.out _ (HP.out.below HBW.out)).mono ?_); rintro e9 w9 ⟨rfl, hb9⟩; replace HB7 := Lib.hid (HB7.out.trans (hb9.mono HB7.out.size)); replace HBW := Lib.hid (HBW.out.trans (hb9.mono HBW.out.size)); replace HBX := Lib.hid (HBX.out.trans (hb9.mono HBX.out.size)); clear hb9) | (go_at_call 18; (with_reducible refine (C18.out _ _ _ _ (HL2.out.below HBX.out) (HP.out.below HBW.out)).mono ?_); rintro e9 w9 ⟨rfl, hb9⟩; replace HB7 := Lib.hid (HB7.out.trans (hb9.mono HB7.out.size)); replace HBW := Lib.hid (HBW.out.trans (hb9.mono HBW.out.size)); replace HBX := Lib.hid (HBX.out.trans (hb9.mono HBX.out.size)); clear hb9))
        go_upto_region 15 with (go_at_call 17; (with_reducible refine (C17.out _ (HP.out.below HBW.out)).mono ?_); rintro e9 w9 ⟨rfl, hb9⟩; replace HB7 := Lib.hid (HB7.out.trans (hb9.mono HB7.out.size)); replace HBW := Lib.hid (HBW.out.trans (hb9.mono HBW.out.size)); replace HBX := Lib.hid (HBX.out.trans (hb9.mono HBX.out.size)); clear hb9)
        go_upto_region 16 with (go_at_call 19; (with_reducible refine (C19.out _ (HP.out.below HBW.out)).mono ?_); rintro e9 w19 ⟨ad, cp, rfl, hr19, hb9⟩; have HR19 := Lib.hid hr19; clear hr19; replace HB7 := Lib.hid (HB7.out.trans (hb9.mono HB7.out.size)); replace HBW := Lib.hid (HBW.out.trans (hb9.mono HBW.out.size)); replace HBX := Lib.hid (HBX.out.trans (hb9.mono HBX.out.size)); clear hb9)
        have u7 := conv_RB (own_RB3 (own_keeps HO7.out fun g hg => HB7.out.block g (own_lt HO7.out g hg)))
        have u19 := conv_RB HR19.out
        generalize (⟨(writeL l).toArray⟩ : ByteArray) = sw at *
        go_wp2_with (go_at_call 11; (with_reducible refine (known_any _).mono ?_); rintro e9 w9 ⟨rfl, hb9⟩; have HB9 := Lib.hid (HBW.out.trans (hb9.mono HBW.out.size)); clear hb9)
        go_ret
        exact ⟨rfl, HB9.out⟩

set_option maxRecDepth 100000 in
set_option maxHeartbeats 1000000 in
theorem writes_bad (A : Option Addr) (n c : Nat) (l : List Hd) (sb : ByteArray) (w : World) (h : HL w A n c l) (hn : (n : Int) ≤ 110) (hs : (sb.size : Int) ≤ 50) (hv : validL l = false) :
    Calls Tryd.prog 3 #[.slice A n c, .string sb] w fun e w' => e = .returned (.bool true) ∧ Below w.heap.size w w' := by
  have HP := Lib.hid h
  have HLEN := Lib.hid h.len
  have HV := Lib.hid hv
  have hnm : sb.data.toList.length ≤ 1000000 := by
    have := size_str sb.data.toList
    rw [bstr] at this
    omega
  have C14 := Lib.hid (fun W => name_any sb.data.toList W hnm)
  have C15 := Lib.hid (fun W => rname_any sb.data.toList W hnm)
  rw [bstr] at C14 C15
  generalize nameOk sb.data.toList = bn at *
  have C16 : Small l → Hid (∀ W A2 i c2 (_ : HL W A2 i c2 l), Calls Tryd.prog 16 #[.slice A2 i c2] W fun e w' => e = .returned (.bool false) ∧ Below W.heap.size W w') := fun hd => Lib.hid fun W A2 i c2 h2 => by have := validL_any A2 i c2 l W h2 (by have := h2.len; have := HLEN.out; omega) hd; rw [hv] at this; exact this
  have C17 : Small l → Hid (∀ W (_ : HL W A n c l), Calls Tryd.prog 17 #[.slice A n c] W fun e w' => e = .returned (.bool false) ∧ Below W.heap.size W w') := fun hd => Lib.hid fun W h2 => by have := rvalidL_any A n c l W h2 (by omega) hd; rw [hv] at this; exact this
  have C18 : Hid (∀ W A2 i c2 (_ : HL W A2 i c2 l) (_ : HL W A n c l), Calls Tryd.prog 18 #[.slice A2 i c2, .slice A n c] W fun e w' => e = .returned (.bool true) ∧ Below W.heap.size W w') := Lib.hid fun W A2 i c2 h2 h3 => by have := same_any A2 A i c2 n c l l W h2 h3 (by have := h2.len; have := HLEN.out; omega); rw [decide_eq_true rfl] at this; exact this
  have C19 : Small l → Hid (∀ W (_ : HL W A n c l), Calls Tryd.prog 19 #[.slice A n c] W fun e w' => ∃ ad cp, e = .returned (.slice (some ⟨ad, 0, none⟩) (writeL l).length cp) ∧ RB w' (some ⟨ad, 0, none⟩) (writeL l).length cp (writeL l) ∧ Below W.heap.size W w') := fun hd => Lib.hid fun W h2 => rwrite_ok A n c l W h2 (by omega) hd
  clear h hv hnm
  go_enter Tryd.func3, Tryd.ntmps3
  · go_upto_region 4 with fail
    go_loopw [5] (fun ii wr => ∃ i : Nat, (i : Int) ≤ n ∧ ii = .int .i64 i ∧ Hid (∀ x ∈ l.take i, x.n.length ≤ 50 ∧ x.t.length ≤ 200) ∧ Hid (Below w.heap.size w wr)) (fun ii _ => n - (intOf ii).toNat)
    case atStart => exact ⟨0, by omega, rfl, Lib.hid (fun x hx => by simp at hx), Lib.hid (Below.refl _ _)⟩
    case round =>
      obtain ⟨i, hi, rfl, HS, HBR⟩ := hrel
      by_cases hlt : (i : Int) < n
      · have hi1 : i < l.length := by rw [HLEN.out]; omega
        obtain ⟨b, o, e, hat⟩ := HP.out.at (by omega)
        subst e
        obtain ⟨f0, f1⟩ := (hat i hi1).below HBR.out
        have hs9 : ∀ (h1 : (l[i]).n.length ≤ 50) (h2 : (l[i]).t.length ≤ 200), ∀ x ∈ l.take (i + 1), x.n.length ≤ 50 ∧ x.t.length ≤ 200 := fun h1 h2 => take_all (p := fun x => x.n.length ≤ 50 ∧ x.t.length ≤ 200) HS.out hi1 ⟨h1, h2⟩
        have zn := size_str (l[i]).n
        have zt := size_str (l[i]).t
        have HS9 := Lib.hid hs9
        generalize l[i] = p at *
        generalize (⟨p.n.toArray⟩ : ByteArray) = sn at *
        generalize (⟨p.t.toArray⟩ : ByteArray) = st at *
        clear hat hs9 hi1
        by_cases hq1 : (50 : Int) < p.n.length
        · go_wp2_with (go_at_call 11; (with_reducible refine (known_any _).mono ?_); rintro e9 w9 ⟨rfl, hb9⟩; have HB9 := Lib.hid (HBR.out.trans (hb9.mono HBR.out.size)); clear hb9)
          go_ret
          exact ⟨rfl, HB9.out⟩
        · by_cases hq2 : (200 : Int) < p.t.length
          · go_wp2_with (go_at_call 11; (with_reducible refine (known_any _).mono ?_); rintro e9 w9 ⟨rfl, hb9⟩; have HB9 := Lib.hid (HBR.out.trans (hb9.mono HBR.out.size)); clear hb9)
            go_ret
            exact ⟨rfl, HB9.out⟩
          · go_wp2_with fail
            go_roundw
            case rel => exact ⟨i + 1, by omega, by go_num, Lib.hid (HS9.out (by omega) (by omega)), Lib.hid (by first | exact HBR.out | exact below_drewN HBR.out _)⟩
            case measure => simp [intOf]; omega
      · obtain rfl : i = n := by omega
        have HD : Hid (Small l) := Lib.hid (fun x hx => by have := HS.out x (by rw [List.take_of_length_le (by rw [HLEN.out]; omega)]; exact hx); omega)
        replace C16 := C16 HD.out
        replace C17 := C17 HD.out
        replace C19 := C19 HD.out
        obtain ⟨A2, c2, W2, hrun, hl2, hb2⟩ := app_hd wr A i c l (HP.out.below HBR.out) (by omega)
        have HB2 := Lib.hid (HBR.out.trans (hb2.mono HBR.out.size))
        have HL2 := Lib.hid hl2
        clear hl2 hb2 hi hlt
        go_upto_region 9 with (at_builtin; go_must (refine wpList_run rfl (.tmp 44) (.tmp 45) 22 rfl rfl rfl hrun ?_))
        clear hrun
        have HBW := HB2
        have HBX := Lib.hid (Below.refl W2.heap.size W2)
        have C12 := Lib.hid (write_bad A2 i c2 l W2 HL2.out (by omega) HD.out HV.out)
        go_upto_region 10 with (go_at_call 12; (with_reducible refine (C12.out).mono ?_); rintro e9 w9 ⟨rfl, hb9⟩; replace HBW := Lib.hid (HBW.out.trans (hb9.mono HBW.out.size)); replace HBX := Lib.hid (HBX.out.trans (hb9.mono HBX.out.size)); clear hb9)
        have C13 := Lib.hid (length_bad A2 i c2 l w9 (HL2.out.below HBX.out) (by omega) HD.out HV.out)
        go_upto_region 11 with (go_at_call 13; (with_reducible refine C13.out.mono ?_); rintro e9 w10 ⟨rfl, hb9⟩; replace HBW := Lib.hid (HBW.out.trans (hb9.mono HBW.out.size)); replace HBX := Lib.hid (HBX.out.trans (hb9.mono HBX.out.size)); clear hb9)
        go_upto_region 13 with (first | (go_at_call 14; (with_reducible refine (C14.out _).mono ?_); rintro e9 w9 ⟨rfl, hb9⟩; replace HBW := Lib.hid (HBW.out.trans (hb9.mono HBW.out.size)); replace HBX := Lib.hid (HBX.out.trans (hb9.mono HBX.out.size)); clear hb9) | (go_at_call 15; (with_reducible refine (C15.out _).mono ?_); rintro e9 w9 ⟨rfl, rfl⟩; skip) | (go_at_call 16; (with_reducible refine (C16.out _ _ _ _ (HL2.out.below HBX.out)).mono ?_); rintro e9 w9 ⟨rfl, hb9⟩; replace HBW := Lib.hid (HBW.out.trans (hb9.mono HBW.out.size)); replace HBX := Lib.hid (HBX.out.trans (hb9.mono HBX.out.size)); clear hb9) | (go_at_call 17; (with_reducible refine (C17.out _ (HP.out.below HBW.out)).mono ?_); rintro e9 w9 ⟨rfl, hb9⟩; replace HBW := Lib.hid (HBW.out.trans (hb9.mono HBW.out.size)); replace HBX := Lib.hid (HBX.out.trans (hb9.mono HBX.out.size)); clear hb9) | (go_at_call 18; (with_reducible refine (C18.out _ _ _ _ (HL2.out.below HBX.out) (HP.out.below HBW.out)).mono ?_); rintro e9 w9 ⟨rfl, hb9⟩; replace HBW := Lib.hid (HBW.out.trans (hb9.mono HBW.out.size)); replace HBX := Lib.hid (HBX.out.trans (hb9.mono HBX.out.size)); clear hb9))
        go_wp2_with (first | (go_at_call 17; (with_reducible refine (C17.out _ (HP.out.below HBW.out)).mono ?_); rintro e9 w9 ⟨rfl, hb9⟩; replace HBW := Lib.hid (HBW.out.trans (hb9.mono HBW.out.size)); replace HBX := Lib.hid (HBX.out.trans (hb9.mono HBX.out.size)); clear hb9) | (go_at_call 11; (with_reducible refine (known_any _).mono ?_); rintro e9 w9 ⟨rfl, hb9⟩; have HB9 := Lib.hid (HBW.out.trans (hb9.mono HBW.out.size)); clear hb9))
        go_ret
        exact ⟨rfl, HB9.out⟩

set_option maxRecDepth 100000 in
set_option maxHeartbeats 1000000 in
theorem writes_law (A : Option Addr) (n c : Nat) (l : List Hd) (sb : ByteArray) (w : World) (h : HL w A n c l) (hs0 : sb.size ≤ maxLen) :
    Calls Tryd.prog 3 #[.slice A n c, .string sb] w fun e w' => e = .returned (.bool true) ∧ Below w.heap.size w w' := by
  by_cases hn : (110 : Int) < n
  · clear hs0 h
    go_enter Tryd.func3, Tryd.ntmps3
    go_wp2_with (go_at_call 11; (with_reducible refine (known_any _).mono ?_); rintro e9 w9 ⟨rfl, hb9⟩; have HB9 := Lib.hid hb9; clear hb9)
    go_ret
    exact ⟨rfl, HB9.out⟩
  · by_cases hs : (50 : Int) < sb.size
    · clear hs0 h
      go_enter Tryd.func3, Tryd.ntmps3
      go_wp2_with (go_at_call 11; (with_reducible refine (known_any _).mono ?_); rintro e9 w9 ⟨rfl, hb9⟩; have HB9 := Lib.hid hb9; clear hb9)
      go_ret
      exact ⟨rfl, HB9.out⟩
    · cases hv : validL l with
      | true => exact writes_ok A n c l sb w h (by omega) (by omega) hv
      | false => exact writes_bad A n c l sb w h (by omega) (by omega) hv

end Go.Proofs.YtkalllenggmgoaaDoor
