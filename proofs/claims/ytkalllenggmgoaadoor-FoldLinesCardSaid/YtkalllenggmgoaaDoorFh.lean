/- Valid: the program and the reference. -/
import Derived.Test.YtkalllenggmgoaaDoorFg
namespace Go.Proofs.YtkalllenggmgoaaDoor
open Go.RowKit
set_option linter.unusedVariables false
set_option linter.unusedSimpArgs false

def Small (hs : List Hd) : Prop := ∀ h ∈ hs, h.n.length ≤ 1000000 ∧ h.t.length ≤ 1000000
def okL (hs : List Hd) : Bool := hs.all validH
theorem okL_take (l : List Hd) (i : Nat) (h : i < l.length) : okL (l.take (i + 1)) = (okL (l.take i) && validH l[i]) := by
  unfold okL
  rw [List.take_add_one, List.getElem?_eq_getElem h, List.all_append]
  simp
theorem okL_false (l : List Hd) (i : Nat) (h : i < l.length) (hg : validH l[i] = false) : okL l = false := by
  unfold okL
  rw [List.all_eq_false]
  exact ⟨_, List.getElem_mem h, by simpa using hg⟩
set_option maxRecDepth 100000 in
set_option maxHeartbeats 1000000 in
theorem notvalid_any (h : Hd) (w : World) (hn : h.n.length ≤ 1000000) (ht : h.t.length ≤ 1000000) :
    Calls Tryd.prog 35 #[.agg #[.string ⟨h.n.toArray⟩, .string ⟨h.t.toArray⟩]] w fun e w' => e = .returned (.bool (!validH h)) ∧ Below w.heap.size w w' := by
  have C1 := Lib.hid (valid_any h (w.alloc (.cells #[.string ⟨h.n.toArray⟩, .string ⟨h.t.toArray⟩] 25)) hn ht)
  have HSZ := Lib.hid (show w.heap.size ≤ (w.alloc (.cells #[.string ⟨h.n.toArray⟩, .string ⟨h.t.toArray⟩] 25)).heap.size by simp)
  generalize validH h = b at *
  generalize (⟨h.n.toArray⟩ : ByteArray) = sn at *
  generalize (⟨h.t.toArray⟩ : ByteArray) = st at *
  clear hn ht
  go_enter Tryd.func35, Tryd.ntmps35
  go_wp2_with (go_at_call 36; (with_reducible refine C1.out.mono ?_); rintro e w1 ⟨rfl, hb⟩; have HB := Lib.hid hb; clear hb)
  go_ret
  exact ⟨rfl, ((Below.refl w.heap.size w).alloc (Nat.le_refl _) _).trans (HB.out.mono HSZ.out)⟩
set_option maxRecDepth 100000 in
set_option maxHeartbeats 1000000 in
theorem index51_any (A : Option Addr) (n c : Nat) (l : List Hd) (w : World) (h : HL w A n c l) (hn : n ≤ 1000) (hd : Small l) :
    Calls Tryd.prog 51 #[.slice A n c, .func (.func 35) #[] #[]] w fun e w' => (∃ i : Int, e = .returned (.int .i64 i) ∧ decide (0 ≤ i) = !okL l) ∧ Below w.heap.size w w' := by
  have HP := Lib.hid h
  have HD := Lib.hid hd
  have HL := Lib.hid h.len
  clear hd h
  have hn0 : (n : Int) ≤ 1000 := by omega
  clear hn
  go_enter Tryd.func51, Tryd.ntmps51
  go_wp2_with fail
  go_loopw [8] (fun ii wr => ∃ i : Nat, (i : Int) ≤ n ∧ ii = .int .i64 i ∧ Hid (okL (l.take i) = true) ∧ Hid (Below w.heap.size w wr)) (fun ii _ => n - (intOf ii).toNat)
  case atStart => exact ⟨0, by omega, rfl, Lib.hid rfl, Lib.hid (Below.refl _ _)⟩
  case round =>
    obtain ⟨i, hi, rfl, HF, HB⟩ := hrel
    have hi0 : (0 : Int) ≤ i := by omega
    by_cases hlt : (i : Int) < n
    · have hi1 : i < l.length := by rw [HL.out]; omega
      obtain ⟨b, o, rfl, hat⟩ := HP.out.at (by omega)
      have hA := (hat i hi1).below HB.out
      have hm := HD.out _ (List.getElem_mem hi1)
      have C1 := Lib.hid (notvalid_any l[i] wr hm.1 hm.2)
      have hs := okL_take l i hi1
      rw [HF.out, Bool.true_and] at hs
      have HS := Lib.hid hs
      have HS2 := Lib.hid (okL_false l i hi1)
      clear hs hat hm
      generalize hq : validH l[i] = q at *
      generalize l[i] = p at *
      obtain ⟨f0, f1⟩ := hA
      generalize (⟨p.n.toArray⟩ : ByteArray) = sn at *
      generalize (⟨p.t.toArray⟩ : ByteArray) = st at *
      clear hq
      cases q with
      | true =>
        go_wp2_with (go_at_call 35; (with_reducible refine C1.out.mono ?_); rintro e w1 ⟨rfl, hb⟩; have HB2 := Lib.hid (HB.out.trans (hb.mono HB.out.size)); clear hb)
        go_roundw
        case rel => exact ⟨i + 1, by omega, by go_num, HS, HB2⟩
        case measure => simp [intOf]; omega
      | false =>
        go_wp2_with (go_at_call 35; (with_reducible refine C1.out.mono ?_); rintro e w1 ⟨rfl, hb⟩; have HB2 := Lib.hid (HB.out.trans (hb.mono HB.out.size)); clear hb)
        go_ret
        exact ⟨⟨_, rfl, by rw [HS2.out (by first | trivial | rfl)]; simp⟩, HB2.out⟩
    · have HLE := Lib.hid (show l.take i = l by rw [List.take_of_length_le]; rw [HL.out]; omega)
      go_wp2_with fail
      go_ret
      have := HF.out
      rw [HLE.out] at this
      exact ⟨⟨_, rfl, by rw [this]; simp⟩, HB.out⟩
set_option maxRecDepth 100000 in
set_option maxHeartbeats 1000000 in
theorem contains34_any (A : Option Addr) (n c : Nat) (l : List Hd) (w : World) (h : HL w A n c l) (hn : n ≤ 1000) (hd : Small l) :
    Calls Tryd.prog 34 #[.slice A n c, .func (.func 35) #[] #[]] w fun e w' => e = .returned (.bool (!okL l)) ∧ Below w.heap.size w w' := by
  have C1 := Lib.hid (index51_any A n c l w h hn hd)
  generalize okL l = b at *
  clear h hn hd
  go_enter Tryd.func34, Tryd.ntmps34
  go_wp2_with (go_at_call 51; (with_reducible refine C1.out.mono ?_); rintro e w1 ⟨⟨i, rfl, hi⟩, hb⟩; have HB := Lib.hid hb; have HI := Lib.hid hi; clear hb hi)
  go_ret
  exact ⟨by rw [← HI.out]; rfl, HB.out⟩
theorem validL_b (l : List Hd) (n : Nat) (h : l.length = n) : validL l = (decide ((n : Int) ≤ 100) && okL l) := by
  unfold validL okL
  rw [h]
  congr 1
  congr 1
  apply propext
  omega
set_option maxRecDepth 100000 in
set_option maxHeartbeats 1000000 in
theorem validL_any (A : Option Addr) (n c : Nat) (l : List Hd) (w : World) (h : HL w A n c l) (hn : n ≤ 1000) (hd : Small l) :
    Calls Tryd.prog 16 #[.slice A n c] w fun e w' => e = .returned (.bool (validL l)) ∧ Below w.heap.size w w' := by
  have C1 := Lib.hid (contains34_any A n c l w h hn hd)
  rw [validL_b l n h.len]
  generalize okL l = b at *
  clear h hn hd
  obtain ⟨k, hk⟩ : ∃ k : Int, (n : Int) = k := ⟨_, rfl⟩
  rw [hk]
  cases h1 : decide (k ≤ 100) with
  | false =>
    go_enter Tryd.func16, Tryd.ntmps16
    go_wp2_with fail
    go_ret
    exact ⟨rfl, Below.refl _ _⟩
  | true =>
    go_enter Tryd.func16, Tryd.ntmps16
    go_wp2_with (go_at_call 34; (with_reducible refine C1.out.mono ?_); rintro e w1 ⟨rfl, hb⟩; have HB := Lib.hid hb; clear hb)
    go_ret
    exact ⟨by simp, HB.out⟩
/-- The reference's answer. -/
theorem validH_ends (h : Hd) (ha : allB txtI h.t = true) (he : h.t.isEmpty = false) (x y : Int) (h0 : 0 < h.t.length) (hx : ((h.t[0]).toNat : Int) = x) (hy : ((h.t[h.t.length - 1]'(by omega)).toNat : Int) = y) : validH h = (nameOk h.n && ((x != 32) && (y != 32))) := by
  unfold validH textOk
  rw [← allB_txt, ha, he, Bool.true_and, Bool.false_or]
  have k : ∀ c : UInt8, (((c.toNat : Nat) : Int) != 32) = decide (some c ≠ some (32 : UInt8)) := fun c => by
    rw [Bool.eq_iff_iff, bne_iff_ne, decide_eq_true_eq, Ne, Ne, Option.some_inj, u8_iff]
    have : (32 : UInt8).toNat = 32 := rfl
    rw [this]
    omega
  have e1 : h.t.head? = some h.t[0] := by rw [List.head?_eq_getElem?, List.getElem?_eq_getElem h0]
  have e2 : h.t.getLast? = some (h.t[h.t.length - 1]'(by omega)) := by rw [List.getLast?_eq_getElem?, List.getElem?_eq_getElem (by omega)]
  rw [e1, e2, ← hx, ← hy, k, k]
theorem validH_nil (h : Hd) (he : h.t.isEmpty = true) : validH h = nameOk h.n := by
  unfold validH textOk
  have : h.t = [] := by simpa using he
  rw [this]
  simp
theorem validH_bad (h : Hd) (ha : allB txtI h.t = false) : validH h = false := by
  unfold validH textOk
  rw [← allB_txt, ha]
  simp
theorem validH_ends2 (n t : List UInt8) (ha : allB txtI t = true) (he : t.isEmpty = false) (x y : Int) (h0 : 0 < t.length) (hx : ((t[0]).toNat : Int) = x) (hy : ((t[t.length - 1]'(by omega)).toNat : Int) = y) : validH ⟨n, t⟩ = (nameOk n && ((x != 32) && (y != 32))) := validH_ends ⟨n, t⟩ ha he x y h0 hx hy
theorem validH_nil2 (n t : List UInt8) (he : t.isEmpty = true) : validH ⟨n, t⟩ = nameOk n := validH_nil ⟨n, t⟩ he
theorem validH_bad2 (n t : List UInt8) (ha : allB txtI t = false) : validH ⟨n, t⟩ = false := validH_bad ⟨n, t⟩ ha
set_option maxRecDepth 100000 in
set_option maxHeartbeats 1000000 in
theorem one_any (h : Hd) (w : World) (hn : h.n.length ≤ 1000000) (ht : h.t.length ≤ 1000000) :
    Calls Tryd.prog 37 #[.agg #[.string ⟨h.n.toArray⟩, .string ⟨h.t.toArray⟩]] w fun e w' => e = .returned (.bool (validH h)) ∧ Below w.heap.size w w' := by
  obtain ⟨nm, t⟩ := h
  simp only at *
  obtain ⟨k, hk⟩ : ∃ k : Int, (t.length : Int) = k := ⟨_, rfl⟩
  obtain ⟨W1, hW1⟩ : ∃ W1, w.alloc (.cells #[.string ⟨nm.toArray⟩, .string ⟨t.toArray⟩] 25) = W1 := ⟨_, rfl⟩
  have HB1 : Hid (Below w.heap.size w W1) := Lib.hid (hW1 ▸ (Below.refl _ w).alloc (Nat.le_refl _) _)
  have hX : BoxH w.heap.size ⟨nm.toArray⟩ ⟨t.toArray⟩ W1 := hW1 ▸ BoxH.new w _ _ 25
  have HW1 := Lib.hid hW1
  have C15 := Lib.hid (rname_any nm W1 hn)
  have hsz : ((⟨t.toArray⟩ : ByteArray).size : Int) = k := by rw [size_str]; exact hk
  have he : (⟨t.toArray⟩ : ByteArray).toList.isEmpty = t.isEmpty := by rw [Lib.toList_data]
  have HIX := Lib.hid (fun i hi => idx_str W1 t i hi)
  have HE := Lib.hid he
  have HK := Lib.hid hk
  have HEND := Lib.hid (validH_ends2 nm t)
  have HNIL := Lib.hid (validH_nil2 nm t)
  have HBAD := Lib.hid (validH_bad2 nm t)
  have hk0 : k ≤ 1000000 := by omega
  have hk1 : 0 ≤ k := by omega
  generalize (⟨t.toArray⟩ : ByteArray) = sb at *
  generalize (⟨nm.toArray⟩ : ByteArray) = sn at *
  obtain ⟨c0, c1⟩ := hX
  obtain ⟨bx, hbx⟩ : ∃ bx, w.heap.size = bx := ⟨_, rfl⟩
  rw [hbx] at c0 c1
  have HBX := Lib.hid hbx
  generalize validH ⟨nm, t⟩ = vh at *
  generalize nameOk nm = na at *
  clear hk hn ht hW1 hbx he
  go_enter Tryd.func37, Tryd.ntmps37
  go_upto_region 1 with fail
  rw [HW1.out, HBX.out]
  go_wp2_with fail
  go_loopw [4] (fun ii wr => ∃ i : Nat, (i : Int) ≤ k ∧ ii = .int .i64 i ∧ Hid (allB txtI (t.take i) = true) ∧ wr = W1) (fun ii _ => (k - intOf ii).toNat)
  case atStart => exact ⟨0, by omega, rfl, Lib.hid rfl, rfl⟩
  case round =>
    obtain ⟨i, hi, rfl, HF, rfl⟩ := hrel
    have hi0 : (0 : Int) ≤ i := by omega
    by_cases hlt : (i : Int) < k
    · have hi1 : i < t.length := by have := HK.out; omega
      have hix := HIX.out i hi1
      have hs := allB_take txtI t i hi1
      rw [HF.out, Bool.true_and] at hs
      have HS := Lib.hid hs
      have HS2 := Lib.hid (allB_false txtI t i hi1)
      have hy2 := (t[i]).toNat_lt
      clear hs
      generalize (t[i]).toNat = y at *
      obtain ⟨x, hx⟩ : ∃ x : Int, ((y : Nat) : Int) = x := ⟨_, rfl⟩
      rw [hx] at HS HS2 hix
      have C1 := Lib.hid (rvis_any x wr (by omega) (by omega))
      clear hx hy2
      unfold txtI at HS HS2
      cases hq : (x == 32) with
      | true =>
        have hq2 : (x != 32) = false := by rw [bne, hq]; rfl
        rw [hq] at HS
        clear hq
        go_wp2_with fail
        go_roundw
        case rel => exact ⟨i + 1, by omega, by go_num, Lib.hid (HS.out.trans (by first | rfl | simp)), by first | trivial | rfl⟩
        case measure => simp [intOf]; omega
      | false =>
        have hq2 : (x != 32) = true := by rw [bne, hq]; rfl
        rw [hq] at HS HS2
        clear hq
        generalize hv : visI x = q at *
        clear hv
        cases q with
        | true =>
          go_wp2_with (go_at_call 55; (with_reducible refine C1.out.mono ?_); rintro e w1 ⟨rfl, rfl⟩)
          go_roundw
          case rel => exact ⟨i + 1, by omega, by go_num, Lib.hid (HS.out.trans (by first | rfl | simp)), by first | trivial | rfl⟩
          case measure => simp [intOf]; omega
        | false =>
          go_wp2_with (go_at_call 55; (with_reducible refine C1.out.mono ?_); rintro e w1 ⟨rfl, rfl⟩)
          go_ret
          exact ⟨by rw [HBAD.out (HS2.out (by first | trivial | rfl))]; rfl, HB1.out⟩
    · have HLE := Lib.hid (show t.take i = t by rw [List.take_of_length_le]; have := HK.out; omega)
      have HA : Hid (allB txtI t = true) := Lib.hid (by rw [← HF.out, HLE.out])
      have CALL := C15.out
      clear HF HLE
      cases na with
      | false =>
        have HR : Hid (vh = false) := Lib.hid (by
          cases hte : t.isEmpty with
          | true => exact (HNIL.out hte).trans rfl
          | false =>
            have hl0 : 0 < t.length := by cases t with
              | nil => cases hte
              | cons => simp
            exact (HEND.out HA.out hte _ _ hl0 rfl rfl).trans rfl)
        have C := Lib.hid CALL
        clear CALL HIX
        go_wp2_with (go_at_call 15; (with_reducible refine C.out.mono ?_); rintro e w1 ⟨rfl, rfl⟩)
        go_ret
        rw [HR.out]
        exact ⟨rfl, HB1.out⟩
      | true =>
        have C := Lib.hid CALL
        clear CALL
        cases hte : t.isEmpty with
        | true =>
          have hse : sb.toList.isEmpty = true := HE.out.trans hte
          have HR := Lib.hid (HNIL.out hte)
          clear hte HIX
          go_wp2_with (go_at_call 15; (with_reducible refine C.out.mono ?_); rintro e w1 ⟨rfl, rfl⟩)
          go_ret
          rw [HR.out]
          exact ⟨rfl, HB1.out⟩
        | false =>
          have hse : sb.toList.isEmpty = false := HE.out.trans hte
          have hl0 : 0 < t.length := by cases t with
            | nil => cases hte
            | cons => simp
          have hk2 : 0 < k := by have := HK.out; omega
          have HR := Lib.hid (HEND.out HA.out hte _ _ hl0 rfl rfl)
          have hx0 := HIX.out 0 hl0
          have hx1 := HIX.out (t.length - 1) (by omega)
          have e1 : ((t.length - 1 : Nat) : Int) = k - 1 := by have := HK.out; omega
          rw [e1] at hx1
          generalize ((t[0]).toNat : Int) = x at *
          generalize ((t[t.length - 1]'(by omega)).toNat : Int) = y at *
          have hx0 : (Instr.index 9 (.string sb) (.int .i64 0)).run Tryd.prog wr = .ok (.int .u8 x) wr := hx0
          clear hte e1 HIX
          cases hq : (x != 32) with
          | false =>
            rw [hq] at HR
            go_wp2_with (go_at_call 15; (with_reducible refine C.out.mono ?_); rintro e w1 ⟨rfl, rfl⟩)
            go_ret
            rw [HR.out]
            exact ⟨rfl, HB1.out⟩
          | true =>
            rw [hq] at HR
            cases hq2 : (y != 32) <;>
            · rw [hq2] at HR
              go_wp2_with (go_at_call 15; (with_reducible refine C.out.mono ?_); rintro e w1 ⟨rfl, rfl⟩)
              go_ret
              rw [HR.out]
              exact ⟨by first | rfl | simp [hq2], HB1.out⟩
set_option maxRecDepth 100000 in
set_option maxHeartbeats 1000000 in
theorem rvalidL_any (A : Option Addr) (n c : Nat) (l : List Hd) (w : World) (h : HL w A n c l) (hn : n ≤ 1000) (hd : Small l) :
    Calls Tryd.prog 17 #[.slice A n c] w fun e w' => e = .returned (.bool (validL l)) ∧ Below w.heap.size w w' := by
  rw [validL_b l n h.len]
  have HP := Lib.hid h
  have HD := Lib.hid hd
  have HL := Lib.hid h.len
  clear hd h
  have hn0 : (n : Int) ≤ 1000 := by omega
  clear hn
  go_enter Tryd.func17, Tryd.ntmps17
  go_wp2_with fail
  go_loopw [3] (fun ii wr => ∃ i : Nat, (i : Int) ≤ n ∧ ii = .int .i64 i ∧ Hid (okL (l.take i) = true) ∧ Hid (Below w.heap.size w wr)) (fun ii _ => n - (intOf ii).toNat)
  case atStart => exact ⟨0, by omega, rfl, Lib.hid rfl, Lib.hid (Below.refl _ _)⟩
  case round =>
    obtain ⟨i, hi, rfl, HF, HB⟩ := hrel
    have hi0 : (0 : Int) ≤ i := by omega
    by_cases hlt : (i : Int) < n
    · have hi1 : i < l.length := by rw [HL.out]; omega
      obtain ⟨b, o, rfl, hat⟩ := HP.out.at (by omega)
      have hA := (hat i hi1).below HB.out
      have hm := HD.out _ (List.getElem_mem hi1)
      have C1 := Lib.hid (one_any l[i] wr hm.1 hm.2)
      have hs := okL_take l i hi1
      rw [HF.out, Bool.true_and] at hs
      have HS := Lib.hid hs
      have HS2 := Lib.hid (okL_false l i hi1)
      clear hs hat hm
      generalize hq : validH l[i] = q at *
      generalize l[i] = p at *
      obtain ⟨f0, f1⟩ := hA
      generalize (⟨p.n.toArray⟩ : ByteArray) = sn at *
      generalize (⟨p.t.toArray⟩ : ByteArray) = st at *
      clear hq
      cases q with
      | true =>
        go_wp2_with (go_at_call 37; (with_reducible refine C1.out.mono ?_); rintro e w1 ⟨rfl, hb⟩; have HB2 := Lib.hid (HB.out.trans (hb.mono HB.out.size)); clear hb)
        go_roundw
        case rel => exact ⟨i + 1, by omega, by go_num, HS, HB2⟩
        case measure => simp [intOf]; omega
      | false =>
        go_wp2_with (go_at_call 37; (with_reducible refine C1.out.mono ?_); rintro e w1 ⟨rfl, hb⟩; have HB2 := Lib.hid (HB.out.trans (hb.mono HB.out.size)); clear hb)
        go_ret
        exact ⟨by rw [HS2.out (by first | trivial | rfl)]; simp, HB2.out⟩
    · have HLE := Lib.hid (show l.take i = l by rw [List.take_of_length_le]; rw [HL.out]; omega)
      go_wp2_with fail
      go_ret
      have := HF.out
      rw [HLE.out] at this
      exact ⟨by rw [this]; simp, HB.out⟩
end Go.Proofs.YtkalllenggmgoaaDoor
