/- Encode: its contract. -/
import Derived.Test.YtibkhjpjneoabaaFb
import Derived.Test.YtibkhjpjneoabaaVrApp
namespace Go.Proofs.Ytibkhjpjneoabaa
open Go.RowKit
set_option linter.unusedVariables false
set_option linter.unusedSimpArgs false

/-- A packet of the law's list. -/
structure Pk where
  A : Option Addr
  n : Nat
  c : Nat
  l : List UInt8
def PSS (w : World) (A : Option Addr) (len : Nat) (f : Nat → Pk) : Prop := len ≤ maxLen ∧ ∀ i, i < len → ∃ b o, A = some ⟨b, o, none⟩ ∧ b < w.heap.size ∧ w.cell? ⟨b, o + i, none⟩ = some (.slice (f i).A (f i).n (f i).c) ∧ RB w (f i).A (f i).n (f i).c (f i).l
theorem PSS.below {w W : World} {A : Option Addr} {n : Nat} {f : Nat → Pk} (h : PSS w A n f) (hb : Below w.heap.size w W) : PSS W A n f :=
  ⟨h.1, fun i hi => by
    obtain ⟨b, o, e, hlt, hc, hr⟩ := h.2 i hi
    exact ⟨b, o, e, Nat.lt_of_lt_of_le hlt hb.size, (hb.cell (p := ⟨b, _, none⟩) hlt).trans hc, hr.below hb⟩⟩
/-- The first packets. -/
def pks (f : Nat → Pk) (n : Nat) : List (List UInt8) := (List.range n).map fun i => (f i).l
theorem pks_succ (f : Nat → Pk) (n : Nat) : pks f (n + 1) = pks f n ++ [(f n).l] := by simp [pks, List.range_succ]
def packErr (k m c : Int) (b : List UInt8) : Int := if m < b.length then 5 else if k = 2 ∧ b.length = 0 ∧ c = 0 then 4 else 0
def packB (k m c : Int) (b : List UInt8) : List UInt8 := if k = 1 then Vr.formB b.length (Vr.k0 b.length) ++ b ++ sumB c b else escL (b ++ sumB c b) ++ [126]
def encErr (k m c : Int) : List (List UInt8) → Int
  | [] => 0
  | b :: r => if packErr k m c b = 0 then encErr k m c r else packErr k m c b
def encB (k m c : Int) (ps : List (List UInt8)) : List UInt8 := ps.flatMap (packB k m c)
theorem encB_snoc (k m c : Int) (ps : List (List UInt8)) (b : List UInt8) : encB k m c (ps ++ [b]) = encB k m c ps ++ packB k m c b := by simp [encB]
theorem encErr_ok (k m c : Int) (ps : List (List UInt8)) (b : List UInt8) (h : encErr k m c ps = 0) : encErr k m c (ps ++ [b]) = packErr k m c b := by
  induction ps with
  | nil => simp [encErr]; intro h; exact h.symm
  | cons x r ih =>
    rw [List.cons_append, encErr]
    rw [encErr] at h
    split at h
    · rename_i h1
      rw [if_pos h1]; exact ih h
    · rename_i h1
      exact absurd h h1
theorem encErr_bad (k m c : Int) (ps qs : List (List UInt8)) (h : encErr k m c ps ≠ 0) : encErr k m c (ps ++ qs) = encErr k m c ps := by
  induction ps with
  | nil => simp [encErr] at h
  | cons x r ih =>
    rw [List.cons_append, encErr, encErr]
    rw [encErr] at h
    split at h
    · rename_i h1
      rw [if_pos h1, if_pos h1]; exact ih h
    · rename_i h1
      rw [if_neg h1, if_neg h1]
theorem pks_split (f : Nat → Pk) {i n : Nat} (h : i ≤ n) : ∃ r, pks f n = pks f i ++ r := by
  obtain ⟨d, rfl⟩ : ∃ d, n = i + d := ⟨n - i, by omega⟩
  induction d with
  | zero => exact ⟨[], by simp⟩
  | succ d ih =>
    obtain ⟨r, hr⟩ := ih (by omega)
    exact ⟨r ++ [(f (i + d)).l], by rw [← Nat.add_assoc, pks_succ, hr, List.append_assoc]⟩
theorem packB_len {k m c : Int} {b : List UInt8} (hc : 0 ≤ c) (h3 : c ≤ 3) : (packB k m c b).length ≤ 2 * b.length + 20 := by
  have h1 := sumB_len hc h3 b
  have h2 := tailN_le c
  unfold packB
  split
  · rw [List.length_append, List.length_append, Vr.formB_length]
    have := Vr.k0_le b.length
    omega
  · rw [List.length_append]
    have := escL_len (b ++ sumB c b)
    rw [List.length_append] at this
    simp
    omega
theorem encB_len {k m c : Int} (hc : 0 ≤ c) (h3 : c ≤ 3) (f : Nat → Pk) (n : Nat) (hm : ∀ i, i < n → (f i).l.length ≤ 700) : (encB k m c (pks f n)).length ≤ 1420 * n := by
  induction n with
  | zero => simp [encB, pks]
  | succ n ih =>
    rw [pks_succ, encB_snoc, List.length_append]
    have h1 := ih fun i hi => hm i (by omega)
    have h2 := packB_len (k := k) (m := m) (b := (f n).l) hc h3
    have h3 := hm n (by omega)
    omega
/-- What Encode returns. -/
def Enced (w : World) (E : Int) (xs : List UInt8) (e : Ending) (w' : World) : Prop := ∃ A n c, e = .returned (.tuple #[.slice A n c, .int .i64 E]) ∧ n = (if E = 0 then xs else []).length ∧ w'.ownsRow w.heap.size 5 1 (.slice A n c) n ((if E = 0 then xs else []).map u8) ∧ Below w.heap.size w w'
/-- The cells that a region of Encode reads. -/
def EnR (gf go : Nat) (c : Int) (v : Value) (W : World) : Prop := W.cell? ⟨gf, 2, none⟩ = some (.int .i64 c) ∧ W.cell? ⟨go, 0, none⟩ = some v

theorem enc_res (gf go : Nat) (tmps : Array Value) (W : World) (E : Int) (v : Value) (h4 : tmps.getD 4 undef = .pointer (some ⟨go, 0, none⟩)) (h5 : tmps.getD 5 undef = .int .i64 E) (hb : Blk W go 28 #[v]) : (results Try.f11 tmps).run Try.prog W = .ok (.tuple #[v, .int .i64 E]) W := by
  have hk := hb.cell 0
  simp at hk h4 h5
  simp [results, Try.results11, go_sem, h4, h5, hk]


set_option maxRecDepth 100000 in
set_option maxHeartbeats 4000000 in
theorem enc_any (k m c : Int) (hF : OkF k m c) (L : Option Addr) (len cL : Nat) (f : Nat → Pk) (w : World) (hs : PSS w L len f) (hlen : len ≤ 20) (h7 : ∀ i, i < len → (f i).l.length ≤ 700) :
    Calls Try.prog 11 #[FV k m c, .slice L len cL] w (Enced w (encErr k m c (pks f len)) (encB k m c (pks f len))) := by
  unfold FV
  obtain ⟨W0, hW0⟩ : ∃ W0, (w.alloc (.cells #[.int .i64 k, .int .i64 m, .int .i64 c] 24)).alloc (.cells #[.slice none 0 0] 28) = W0 := ⟨_, rfl⟩
  have hb0 : Below w.heap.size w W0 := hW0 ▸ ((Below.refl _ w).alloc (Nat.le_refl _) _).alloc (by simp) _
  have kf : Blk W0 w.heap.size 24 #[.int .i64 k, .int .i64 m, .int .i64 c] := hW0 ▸ (Blk.new w 24 _).alloc _
  have ko : Blk W0 (w.heap.size + 1) 28 #[.slice none 0 0] := by have := Blk.new (w.alloc (.cells #[.int .i64 k, .int .i64 m, .int .i64 c] 24)) 28 #[.slice none 0 0]; rw [World.size_alloc, hW0] at this; exact this
  have C13 := Lib.hid (valid_yes k m c W0 hF)
  have HF := Lib.hid hF
  have HS := Lib.hid hs
  have HL := Lib.hid hlen
  have H7 := Lib.hid h7
  have HB0 := Lib.hid hb0
  have KF := Lib.hid kf
  have HO0 := Lib.hid (show OutS W0 (w.heap.size + 2) (w.heap.size + 1) (.slice none 0 0) [] from ⟨ko, World.ownsRow_nil _ _ 5 1, by have := ko.lt; omega⟩)
  have HW0 := Lib.hid hW0
  have hl20 : (len : Int) ≤ 20 := by omega
  obtain ⟨f0, f1, f2⟩ : W0.cell? ⟨w.heap.size, 0, none⟩ = some (.int .i64 k) ∧ W0.cell? ⟨w.heap.size, 1, none⟩ = some (.int .i64 m) ∧ W0.cell? ⟨w.heap.size, 2, none⟩ = some (.int .i64 c) := ⟨kf.cell 0, kf.cell 1, kf.cell 2⟩
  clear hF hs hlen h7 hb0 kf ko hW0
  go_enter Try.func11, Try.ntmps11
  go_upto_region 1 with fail
  rw [HW0.out]
  clear HW0
  unfold FV at C13
  go_wp2_with (go_at_call 13; (with_reducible refine C13.out.mono ?_); rintro e w1 ⟨rfl, b1⟩; have HB1 := Lib.hid b1; clear b1)
  go_loopw [15] (fun ii wr => ∃ (i : Nat) (v1 : Value), (i : Int) ≤ len ∧ ii = .int .i64 i ∧ Hid (OutS wr (w.heap.size + 2) (w.heap.size + 1) v1 (encB k m c (pks f i)) ∧ encErr k m c (pks f i) = 0 ∧ Below w.heap.size w wr ∧ Blk wr w.heap.size 24 #[.int .i64 k, .int .i64 m, .int .i64 c])) (fun ii _ => len - (intOf ii).toNat)
  case atStart => exact ⟨0, _, by omega, rfl, Lib.hid ⟨by simpa [encB, pks] using HO0.out.below HB1.out, by simp [encErr, pks], HB0.out.trans (HB1.out.mono HB0.out.size), KF.out.below HB1.out KF.out.lt⟩⟩
  clear f0 f1 f2
  case round =>
    obtain ⟨i, v1, hi, rfl, HI⟩ := hrel
    have hi0 : (0 : Int) ≤ i := by omega
    obtain ⟨wo, rfl⟩ : ∃ wo : World, wo = wr := ⟨_, rfl⟩
    by_cases hlt : (i : Int) < len
    · obtain ⟨b, o, rfl, hbl, hc, hr⟩ := HS.out.2 i (by omega)
      have hl7 := H7.out i (by omega)
      have HPS := Lib.hid (pks_succ f i)
      have HSP := Lib.hid (pks_split f (show i + 1 ≤ len by omega))
      generalize f i = X at *
      obtain ⟨HO, HE, HB, HK⟩ : Hid (OutS wo (w.heap.size + 2) (w.heap.size + 1) v1 (encB k m c (pks f i))) ∧ Hid (encErr k m c (pks f i) = 0) ∧ Hid (Below w.heap.size w wo) ∧ Hid (Blk wo w.heap.size 24 #[.int .i64 k, .int .i64 m, .int .i64 c]) := ⟨Lib.hid HI.out.1, Lib.hid HI.out.2.1, Lib.hid HI.out.2.2.1, Lib.hid HI.out.2.2.2⟩
      have kx := (HB.out.cell (p := ⟨b, o + i, none⟩) hbl).trans hc
      have HR := Lib.hid (hr.below HB.out)
      have HRW := Lib.hid hr
      obtain ⟨f0, f1, f2⟩ : wo.cell? ⟨w.heap.size, 0, none⟩ = some (.int .i64 k) ∧ wo.cell? ⟨w.heap.size, 1, none⟩ = some (.int .i64 m) ∧ wo.cell? ⟨w.heap.size, 2, none⟩ = some (.int .i64 c) := ⟨HK.out.cell 0, HK.out.cell 1, HK.out.cell 2⟩
      have hln : X.l.length = X.n := HR.out.len
      have HLN := Lib.hid hln
      have HN := Lib.hid (show X.n ≤ 700 by omega)
      have HEL := Lib.hid (encB_len (k := k) (m := m) HF.out.c1 HF.out.c2 f i (fun j hj => H7.out j (by have := hlt; omega)))
      have HIL := Lib.hid (show i ≤ 19 by omega)
      have HLT := Lib.hid hlt
      have HPE := Lib.hid (encErr_ok k m c (pks f i) X.l HE.out)
      have HPB := Lib.hid (encB_snoc k m c (pks f i) X.l)
      generalize encB k m c (pks f i) = zs at *
      have ko := HO.out.blk.cell 0
      have zo := HO.out.blk.frozen 0
      obtain ⟨A1, c1, rfl⟩ := HO.out.form
      simp at ko
      clear hbl hc hr hln hl7 HI
      by_cases hm : m < (X.n : Int)
      · have q1 : decide (m < (X.n : Int)) = true := by simpa using hm
        have HE5 := Lib.hid (show packErr k m c X.l = 5 by unfold packErr; rw [HLN.out, if_pos hm])
        clear hm
        go_wp2_with fail
        obtain ⟨r, hrr⟩ := HSP.out
        have hEE : encErr k m c (pks f len) = 5 := by
          rw [hrr, HPS.out, encErr_bad _ _ _ _ _ (by rw [HPE.out, HE5.out]; decide), HPE.out, HE5.out]
        have hk9 := HO.out.blk.set_ 0 (.slice none 0 0)
        simp at hk9
        refine bodyPost_ret (v := .tuple #[.slice none 0 0, .int .i64 5]) (enc_res w.heap.size (w.heap.size + 1) _ _ 5 _ rfl rfl hk9) rfl ⟨none, 0, 0, by rw [hEE], by rw [hEE]; rfl, by rw [hEE]; exact World.ownsRow_nil _ _ 5 1, Below.setCell HB.out (by simp) _⟩
      · have q1 : decide (m < (X.n : Int)) = false := by simpa using hm
        have HM := Lib.hid (show ¬ m < (X.l.length : Int) by rw [HLN.out]; exact hm)
        clear hm
        rcases HF.out.k with rfl | rfl
        · have HE0 := Lib.hid (show packErr 1 m c X.l = 0 by unfold packErr; rw [if_neg HM.out, if_neg (by omega)])
          have HAF := Lib.hid (own_form HO.out.own)
          have C28 := Lib.hid (Vr.append_yes A1 zs.length c1 X.n (zs.map Go.Proofs.Ytibkhjpjneoabaa.u8) wo (holds_own HO.out.own) (by have := HEL.out; have := HIL.out; omega) (by obtain ⟨A9, c9, e9, h9, -⟩ := HAF.out; cases e9; exact h9) (by have := HN.out; omega))
          go_wp2_with (go_at_call 28; (with_reducible refine C28.out.mono ?_); rintro e w2 ⟨val, rfl, ho2, b2⟩; refine Hid.out ?_)
          refine Lib.hid ?_
          obtain ⟨A2, c2, rfl, -⟩ := own_form ho2
          obtain ⟨ys, hys⟩ : ∃ ys, zs ++ Vr.formB X.n (Vr.k0 X.n) = ys := ⟨_, rfl⟩
          have hyl : zs.length + (Vr.k0 X.n + 1) = ys.length := by rw [← hys, List.length_append, Vr.formB_length]
          have hym : zs.map Go.Proofs.Ytibkhjpjneoabaa.u8 ++ (Vr.formB X.n (Vr.k0 X.n)).map Vr.u8 = ys.map Go.Proofs.Ytibkhjpjneoabaa.u8 := by rw [← hys, List.map_append]; rfl
          have HYS := Lib.hid hys
          have HYL := Lib.hid (show ys.length ≤ 30000 by have := HEL.out; have := HIL.out; have := Vr.k0_le X.n; omega)
          rw [hyl, hym] at ho2
          rw [hyl]
          have hq2 := HO.out.blk.below b2 HO.out.blk.lt
          have kq := hq2.cell 0
          have zq := hq2.frozen 0
          simp at kq
          have HW2 := Lib.hid b2
          have HO2 := Lib.hid ho2
          have HQ2 := Lib.hid hq2
          clear hq2 b2 ho2 hyl hym hys ko zo
          go_upto_region 14 with fail
          obtain ⟨w3, hw3⟩ : ∃ w3, w2.setCell ⟨w.heap.size + 1, 0, none⟩ (.slice A2 ys.length c2) = w3 := ⟨_, rfl⟩
          have hon3 : Only (fun j => j = w.heap.size + 1) w2 w3 := hw3 ▸ Only.set (p := fun j => j = w.heap.size + 1) (Only.refl _ _) (fun _ => rfl) 0 _
          have HO3 := Lib.hid (show OutS w3 (w.heap.size + 2) (w.heap.size + 1) (.slice A2 ys.length c2) ys from ⟨by have := HQ2.out.set_ 0 (.slice A2 ys.length c2); rw [hw3] at this; simpa using this, own_base (own_only HO2.out hon3 (fun j hj e => by have := (HO2.out.lt j hj).1; have := HO.out.blk.lt; omega)) HO.out.base, by have := hon3.size; have := HW2.out.size; have := HO.out.base; omega⟩)
          have HK3 := Lib.hid (show Blk w3 w.heap.size 24 #[.int .i64 1, .int .i64 m, .int .i64 c] from (HK.out.below HW2.out HK.out.lt).only hon3 (by simp))
          have HR3 := Lib.hid ((HR.out.below HW2.out).only hon3 fun a hA h0 e => by have := HRW.out.lt h0 hA; omega)
          have SEP3 := Lib.hid (show ∀ a, X.A = some a → 0 < X.n → ¬ SFo (w.heap.size + 1) (.slice A2 ys.length c2) a.block from fun a hA h0 hs => by
            have h1 := HRW.out.lt h0 hA
            rcases hs with e | e
            · omega
            · have := (HO3.out.own.lt _ e).1; omega)
          have HB3 := Lib.hid (show Below w.heap.size w w3 from (HB.out.trans (HW2.out.mono HB.out.size)).trans (hon3.to_below (by have := HB.out.size; have := HW2.out.size; omega) fun b hb e => by omega))
          rw [hw3]
          have HS14 := Lib.hid (show EnR w.heap.size (w.heap.size + 1) c (.slice A2 ys.length c2) w3.drew from ⟨HK3.out.cell 2, HO3.out.blk.cell 0⟩)
          clear hw3 hon3 kq zq f0 f1 f2 kx q1 hi hi0 hl20
          refine wp_region_G (S0 := (EnR w.heap.size (w.heap.size + 1) c (.slice A2 ys.length c2))) (S1 := (fun _ => True)) (c := 8) (by kernel_rfl) ?_
          have hHeld := HS14.out
          have h01 := (fun (W : World) (h : (EnR w.heap.size (w.heap.size + 1) c (.slice A2 ys.length c2)) W) => trivial)
          refine wpG_take0 (i := 0) (oi := ⟨some 48, _, _, _, _, _⟩) (v := .slice A2 ys.length c2) rfl (by kernel_rfl) (by kernel_rfl) (by kernel_rfl) (by decide) (by kernel_rfl) (fun _ _ _ h => h) rfl hHeld (Or.inl ⟨by rfl, ?_⟩) ?_
          · (intro W9 hSw; obtain ⟨v1, v2⟩ := hSw; go_simp; (try (first | with_reducible rfl | rfl)))
          try simp only [Act.put, List.setIfInBounds_toArray, List.set_cons_zero, List.set_cons_succ]
          refine wpG_take0 (i := 1) (oi := ⟨some 49, _, _, _, _, _⟩) (v := .slice X.A X.n X.c) rfl (by kernel_rfl) (by kernel_rfl) (by kernel_rfl) (by decide) (by kernel_rfl) (fun _ _ _ h => h) rfl hHeld (Or.inl ⟨by rfl, ?_⟩) ?_
          · (intro W9 hSw; obtain ⟨v1, v2⟩ := hSw; go_simp; (try (first | with_reducible rfl | rfl)))
          try simp only [Act.put, List.setIfInBounds_toArray, List.set_cons_zero, List.set_cons_succ]
          refine wpG_take0 (i := 3) (oi := ⟨some 51, _, _, _, _, _⟩) (v := .pointer (some ⟨w.heap.size, 2, none⟩)) rfl (by kernel_rfl) (by kernel_rfl) (by kernel_rfl) (by decide) (by kernel_rfl) (fun _ _ _ h => h) rfl hHeld (Or.inl ⟨by rfl, ?_⟩) ?_
          · (intro W9 hSw; obtain ⟨v1, v2⟩ := hSw; go_simp; (try (first | with_reducible rfl | rfl)))
          try simp only [Act.put, List.setIfInBounds_toArray, List.set_cons_zero, List.set_cons_succ]
          refine wpG_take0 (i := 4) (oi := ⟨some 52, _, _, _, _, _⟩) (v := .int .i64 c) rfl (by kernel_rfl) (by kernel_rfl) (by kernel_rfl) (by decide) (by kernel_rfl) (fun _ _ _ h => h) rfl hHeld (Or.inl ⟨by rfl, ?_⟩) ?_
          · (intro W9 hSw; obtain ⟨v1, v2⟩ := hSw; go_simp; (try (first | with_reducible rfl | rfl)))
          try simp only [Act.put, List.setIfInBounds_toArray, List.set_cons_zero, List.set_cons_succ]
          refine wpG_take0 (i := 5) (oi := ⟨some 53, _, _, _, _, _⟩) (v := .slice X.A X.n X.c) rfl (by kernel_rfl) (by kernel_rfl) (by kernel_rfl) (by decide) (by kernel_rfl) (fun _ _ _ h => h) rfl hHeld (Or.inl ⟨by rfl, ?_⟩) ?_
          · (intro W9 hSw; obtain ⟨v1, v2⟩ := hSw; go_simp; (try (first | with_reducible rfl | rfl)))
          try simp only [Act.put, List.setIfInBounds_toArray, List.set_cons_zero, List.set_cons_succ]
          refine wpG_oneA (i := 2) (o := ⟨some 50, _, _, _, _, _⟩) (by kernel_rfl) rfl rfl (fun K hK => ?_)
          refine step_app_own (base := w.heap.size + 2) (n := ys.length) (m := X.n) (xs := ys.map Go.Proofs.Ytibkhjpjneoabaa.u8) (news := X.l.map Go.Proofs.Ytibkhjpjneoabaa.u8) rfl (.tmp 48) (.tmp 49) 28 rfl el22 rfl (own_drew HO3.out.own) rfl (Holds.drew HR3.out.h) (u8_one _) (by have := HYL.out; have := HN.out; unfold maxLen; omega) (by have := HYL.out; have := HN.out; omega) HO3.out.base ?_
          intro v4 w4 hown hg hat
          obtain ⟨A4, c4, rfl, -⟩ := own_form hown
          have HO4 := Lib.hid hown
          have HG4 := Lib.hid (show w3.drew.grownBy w4 (Value.slice A2 ys.length c2).ownBlock from hg)
          have HK4 := Lib.hid (show Blk w4 w.heap.size 24 #[.int .i64 1, .int .i64 m, .int .i64 c] from HK3.out.drew.grown HG4.out (fun e => own_ne HO3.out.own HK3.out (by decide) e.symm))
          have HQ4 := Lib.hid (show Blk w4 (w.heap.size + 1) 28 #[.slice A2 ys.length c2] from HO3.out.blk.drew.grown HG4.out (fun e => HO3.out.ne e.symm))
          have HON4 := Lib.hid (show Only (SFo (w.heap.size + 1) (.slice A2 ys.length c2)) w3 w4 from Only.grown (Only.of_below (below_drew (Below.refl _ w3))) HG4.out fun g e _ => .inr e)
          have HR4 := Lib.hid (HR3.out.only HON4.out SEP3.out)
          have HAT4 := Lib.hid hat
          clear hown hg hat
          refine hK.out _ _ ⟨HK4.out.cell 2, HQ4.out.cell 0⟩ (fun hHeld => ?_)
          clear hK K
          try simp only [Act.put, List.setIfInBounds_toArray, List.set_cons_zero, List.set_cons_succ]
          refine wpG_oneA (i := 6) (o := ⟨some 54, _, _, _, _, _⟩) (by kernel_rfl) rfl rfl (fun K hK => ?_)
          go_simp
          (with_reducible refine (sum_any c HF.out.c1 HF.out.c2 X.A X.n X.c X.l w4 HR4.out (by have := HN.out; omega)).mono ?_); rintro e w5 ⟨A5, c5, rfl, ho5, b5⟩
          have HO5 := Lib.hid ho5
          have HB5 := Lib.hid b5
          have HO45 := Lib.hid (own_keeps HO4.out fun g hg => b5.block g (own_lt HO4.out g hg))
          have HK5 := Lib.hid (HK4.out.below b5 HK4.out.lt)
          have HQ5 := Lib.hid (HQ4.out.below b5 HQ4.out.lt)
          clear ho5 b5
          refine hK.out _ _ ⟨HK5.out.cell 2, HQ5.out.cell 0⟩ (fun hHeld => ?_)
          clear hK K
          try simp only [Act.put, List.setIfInBounds_toArray, List.set_cons_zero, List.set_cons_succ]
          refine wpG_oneA (i := 7) (o := ⟨some 55, _, _, _, _, _⟩) (by kernel_rfl) rfl rfl (fun K hK => ?_)
          refine step_app_own (base := w.heap.size + 2) (n := ys.length + X.n) (m := tailN c) (xs := ys.map Go.Proofs.Ytibkhjpjneoabaa.u8 ++ X.l.map Go.Proofs.Ytibkhjpjneoabaa.u8) (news := (sumB c X.l).map Go.Proofs.Ytibkhjpjneoabaa.u8) rfl (.tmp 50) (.tmp 54) 28 rfl el22 rfl HO45.out rfl (holds_own HO5.out) (u8_one _) (by have := HYL.out; have := HN.out; have := tailN_le c; unfold maxLen; omega) (by have := HYL.out; have := HN.out; have := tailN_le c; omega) (Nat.le_trans HO3.out.base (Nat.le_trans HG4.out.size HB5.out.size)) ?_
          intro v6 w6 hown hg hat
          obtain ⟨A6, c6, rfl, -⟩ := own_form hown
          have HO6 := Lib.hid hown
          have HK6 := Lib.hid (HK5.out.grown hg (fun e => own_ne HO45.out HK5.out (by decide) e.symm))
          have HQ6 := Lib.hid (HQ5.out.grown hg (fun e => own_ne HO45.out HQ5.out (by decide) e.symm))
          have HG6 := Lib.hid hg
          clear hown hg hat
          refine hK.out _ _ ⟨HK6.out.cell 2, HQ6.out.cell 0⟩ (fun hHeld => ?_)
          clear hK K
          try simp only [Act.put, List.setIfInBounds_toArray, List.set_cons_zero, List.set_cons_succ]
          refine wpG_oneB (i := 8) (o := ⟨none, _, _, _, _, _⟩) (by kernel_rfl) rfl rfl (fun K hK => ?_)
          have kq := HQ6.out.cell 0
          have zq := HQ6.out.frozen 0
          simp at kq
          go_simp
          refine hK.out _ _ trivial (fun hHeld => ?_)
          clear hK K
          try simp only [Act.put, List.setIfInBounds_toArray, List.set_cons_zero, List.set_cons_succ]
          refine wpG_done (by kernel_rfl) ?_ _
          clear hHeld h01
          obtain ⟨ss, hss⟩ : ∃ ss, X.l ++ sumB c X.l = ss := ⟨_, rfl⟩
          have HP := Lib.hid (show OutS (w6.setCell ⟨w.heap.size + 1, 0, none⟩ (.slice A6 (ys.length + X.n + tailN c) c6)) (w.heap.size + 2) (w.heap.size + 1) (.slice A6 (ys.length + X.n + tailN c) c6) (ys ++ X.l ++ sumB c X.l) from ⟨by have := HQ6.out.set_ 0 (.slice A6 (ys.length + X.n + tailN c) c6); simpa using this, by
            rw [List.length_append, List.length_append, HLN.out, sumB_len HF.out.c1 HF.out.c2, List.map_append, List.map_append]
            exact own_setCell HO6.out (own_ne HO6.out HQ6.out (by decide)) _, by rw [World.size_setCell]; exact Nat.le_trans HO3.out.base (Nat.le_trans HG4.out.size (Nat.le_trans HB5.out.size HG6.out.size))⟩)
          have HBZ := Lib.hid (show Below w.heap.size w (w6.setCell ⟨w.heap.size + 1, 0, none⟩ (.slice A6 (ys.length + X.n + tailN c) c6)) from by
            refine Below.setCell ?_ (by simp) _
            have hz3 := HB3.out.size
            refine (HB3.out.trans (HON4.out.to_below hz3 fun b hb hs => ?_)).trans (Below.trans (HB5.out.mono (Nat.le_trans hz3 HG4.out.size)) ((Only.grown (p := fun g => (Value.slice A4 (ys.length + X.n) c4).ownBlock = some g) (Only.refl _ _) HG6.out fun g e _ => e).to_below (Nat.le_trans hz3 (Nat.le_trans HG4.out.size HB5.out.size)) fun b hb hs => ?_))
            · rcases hs with e | e
              · omega
              · have := (HO3.out.own.lt _ e).1; omega
            · have := (HO4.out.lt _ hs).1; omega)
          have HKZ := Lib.hid (show Blk (w6.setCell ⟨w.heap.size + 1, 0, none⟩ (.slice A6 (ys.length + X.n + tailN c) c6)) w.heap.size 24 #[.int .i64 1, .int .i64 m, .int .i64 c] from HK6.out.far (by simp) _)
          have hi20 : (i : Int) ≤ 19 := by have := HIL.out; omega
          go_wp2_with fail
          go_roundw
          case rel =>
            refine ⟨i + 1, .slice A6 (ys.length + X.n + tailN c) c6, by have := HLT.out; omega, by go_num, Lib.hid ⟨?_, by rw [HPS.out, HPE.out, HE0.out], HBZ.out, HKZ.out⟩⟩
            rw [HPS.out, HPB.out]
            have e1 : zs ++ packB 1 m c X.l = ys ++ X.l ++ sumB c X.l := by
              unfold packB
              rw [if_pos rfl, HLN.out, ← HYS.out]
              simp [List.append_assoc]
            rw [e1]
            exact HP.out
          case measure => have := HLT.out; simp [intOf]; omega
        · by_cases hz : X.n = 0 ∧ c = 0
          · obtain ⟨hz1, rfl⟩ := hz
            have q2 : ((X.n : Int) == 0) = true := by simp; omega
            have HE4 := Lib.hid (show packErr 2 m 0 X.l = 4 by unfold packErr; rw [if_neg HM.out, if_pos ⟨rfl, by rw [HLN.out, hz1], rfl⟩])
            clear hz1
            go_wp2_with fail
            obtain ⟨r, hrr⟩ := HSP.out
            have hEE : encErr 2 m 0 (pks f len) = 4 := by
              rw [hrr, HPS.out, encErr_bad _ _ _ _ _ (by rw [HPE.out, HE4.out]; decide), HPE.out, HE4.out]
            have hk9 := HO.out.blk.set_ 0 (.slice none 0 0)
            simp at hk9
            refine bodyPost_ret (v := .tuple #[.slice none 0 0, .int .i64 4]) (enc_res w.heap.size (w.heap.size + 1) _ _ 4 _ rfl rfl hk9) rfl ⟨none, 0, 0, by rw [hEE], by rw [hEE]; rfl, by rw [hEE]; exact World.ownsRow_nil _ _ 5 1, Below.setCell HB.out (by simp) _⟩
          · have HE0 := Lib.hid (show packErr 2 m c X.l = 0 by unfold packErr; rw [if_neg HM.out, if_neg (fun h => hz ⟨by rw [← HLN.out]; exact h.2.1, h.2.2⟩)])
            have SEP := Lib.hid (show ∀ a, X.A = some a → 0 < X.n → ¬ SFo (w.heap.size + 1) (.slice A1 zs.length c1) a.block from fun a hA h0 hs => by
              have h1 := HRW.out.lt h0 hA
              rcases hs with e | e
              · omega
              · have := (HO.out.own.lt _ e).1; omega)
            have C27 := Lib.hid (put_any (w.heap.size + 2) (w.heap.size + 1) (.slice A1 zs.length c1) zs X.l X.A X.n X.c wo HO.out HR.out (by have := HEL.out; have := HIL.out; have := HN.out; omega) SEP.out)
            obtain ⟨us, hus⟩ : ∃ us, zs ++ escL X.l = us := ⟨_, rfl⟩
            rw [hus] at C27
            have HUS := Lib.hid hus
            have HUL := Lib.hid (show us.length ≤ 40000 by rw [← hus, List.length_append]; have := escL_len X.l; have := HEL.out; have := HIL.out; have := HN.out; have := HLN.out; omega)
            clear hus ko zo
            rcases (show (((X.n : Int) == 0) = false) ∨ (((X.n : Int) == 0) = true ∧ (c == 0) = false) from by
                by_cases h : X.n = 0
                · exact .inr ⟨by simp; omega, by simpa using fun e => hz ⟨h, e⟩⟩
                · exact .inl (by simp; omega)) with qa | ⟨qa, qb⟩
            · clear hz
              go_wp2_with (go_at_call 27; (with_reducible refine C27.out.mono ?_); rintro e w2 ⟨rfl, v2, hp⟩; refine Hid.out ?_)
              refine Lib.hid ?_
              have HP1 := Lib.hid hp
              clear hp
              have HK2 := Lib.hid (HK.out.only HP1.out.only fun hs => by
                rcases hs with e | e
                · omega
                · have := (HO.out.own.lt _ e).1; omega)
              have HR2 := Lib.hid (HR.out.only HP1.out.only SEP.out)
              clear f0 f1 f2 kx
              have f2 := HK2.out.cell 2
              simp only [List.getElem?_toArray, List.getElem?_cons_zero, List.getElem?_cons_succ] at f2
              have C29 := Lib.hid (sum_any c HF.out.c1 HF.out.c2 X.A X.n X.c X.l w2 HR2.out (by have := HN.out; omega))
              go_wp2_with (go_at_call 29; (with_reducible refine C29.out.mono ?_); rintro e w3 ⟨A5, c5, rfl, ho5, b5⟩; refine Hid.out ?_)
              refine Lib.hid ?_
              have HO5 := Lib.hid ho5
              have HB5 := Lib.hid b5
              have HO3 := Lib.hid (HP1.out.o.below b5)
              clear ho5 b5
              have C27b := Lib.hid (put_any (w.heap.size + 2) (w.heap.size + 1) v2 us (sumB c X.l) A5 (tailN c) c5 w3 HO3.out (own_RB3 HO5.out) (by have := HUL.out; have := tailN_le c; omega) (fun a hA h0 hs => by
                obtain ⟨g, cap, e, hg, -⟩ := own_holds HO5.out h0
                injection e with e1 e2 e3
                rw [e1] at hA
                cases hA
                have := HP1.out.o.lt _ hs
                simp at this
                omega))
              obtain ⟨vs, hvs⟩ : ∃ vs, us ++ escL (sumB c X.l) = vs := ⟨_, rfl⟩
              rw [hvs] at C27b
              have HVS := Lib.hid hvs
              have HVL := Lib.hid (show vs.length ≤ 41000 by rw [← hvs, List.length_append]; have := escL_len (sumB c X.l); have := sumB_len HF.out.c1 HF.out.c2 X.l; have := tailN_le c; have := HUL.out; omega)
              clear hvs f2
              go_wp2_with (go_at_call 27; (with_reducible refine C27b.out.mono ?_); rintro e w4 ⟨rfl, v4, hp⟩; refine Hid.out ?_)
              refine Lib.hid ?_
              have HP2 := Lib.hid hp
              clear hp
              obtain ⟨A4, c4, rfl⟩ := HP2.out.o.form
              have k4 := HP2.out.o.blk.cell 0
              simp at k4
              go_wp2_with (at_builtin; go_must (refine wpList_app_own (base := w.heap.size + 2) (n := vs.length) (m := 1) (xs := vs.map Go.Proofs.Ytibkhjpjneoabaa.u8) (news := [.int .u8 126]) rfl (.tmp 28) (.tmp 29) 28 rfl el22 rfl (own_alloc HP2.out.o.own) rfl (Holds.one _ _ _) (by simp [Value.oneCell']) (by have := HVL.out; unfold maxLen; omega) (by have := HVL.out; omega) (by have := HP2.out.o.base; simp; omega) ?_; intro v6 w6 hown hg hat; refine Hid.out ?_))
              refine Lib.hid ?_
              obtain ⟨A6, c6, rfl, -⟩ := own_form hown
              have HQ := Lib.hid (HP2.out.o.push (ys := [126]) hown hg hat)
              have hk6 := (HP2.out.o.blk.alloc (.cells #[.int .u8 126] 5)).grown hg (by have := HP2.out.o.ne; intro e; exact this e.symm)
              have k6 := hk6.cell 0
              have z6 := hk6.frozen 0
              simp at k6
              clear hown hg hat hk6 k4
              have HPP := Lib.hid (show PutS wo (w6.setCell ⟨w.heap.size + 1, 0, none⟩ (.slice A6 (vs.length + 1) c6)) (w.heap.size + 2) (w.heap.size + 1) (.slice A1 zs.length c1) (vs ++ [126]) (.slice A6 (vs.length + 1) c6) from
                (HP1.out.trans (PutS.trans ⟨HO3.out, Only.of_below HB5.out, Hat.refl _ _⟩ HP2.out)).trans ⟨HQ.out.1, HQ.out.2.1, HQ.out.2.2⟩)
              have SFL := Lib.hid (show ∀ b, SFo (w.heap.size + 1) (.slice A1 zs.length c1) b → w.heap.size < b from fun b hs => by
                rcases hs with e | e
                · omega
                · have := (HO.out.own.lt _ e).1; omega)
              have HBZ := Lib.hid (HB.out.trans (HPP.out.only.to_below HB.out.size fun b hb hs => by have := SFL.out b hs; omega))
              have HKZ := Lib.hid (HK.out.only HPP.out.only fun hs => by have := SFL.out _ hs; omega)
              go_wp2_with fail
              go_roundw
              case rel =>
                refine ⟨i + 1, .slice A6 (vs.length + 1) c6, by have := HLT.out; omega, by go_num, Lib.hid ⟨?_, by rw [HPS.out, HPE.out, HE0.out], HBZ.out, HKZ.out⟩⟩
                rw [HPS.out, HPB.out]
                have e1 : zs ++ packB 2 m c X.l = vs ++ [126] := by
                  unfold packB
                  rw [if_neg (by decide), escL_app, ← HVS.out, ← HUS.out]
                  simp [List.append_assoc]
                rw [e1]
                exact HPP.out.o
              case measure => have := HLT.out; simp [intOf]; omega
            · clear hz
              go_wp2_with (go_at_call 27; (with_reducible refine C27.out.mono ?_); rintro e w2 ⟨rfl, v2, hp⟩; refine Hid.out ?_)
              refine Lib.hid ?_
              have HP1 := Lib.hid hp
              clear hp
              have HK2 := Lib.hid (HK.out.only HP1.out.only fun hs => by
                rcases hs with e | e
                · omega
                · have := (HO.out.own.lt _ e).1; omega)
              have HR2 := Lib.hid (HR.out.only HP1.out.only SEP.out)
              clear f0 f1 f2 kx
              have f2 := HK2.out.cell 2
              simp only [List.getElem?_toArray, List.getElem?_cons_zero, List.getElem?_cons_succ] at f2
              have C29 := Lib.hid (sum_any c HF.out.c1 HF.out.c2 X.A X.n X.c X.l w2 HR2.out (by have := HN.out; omega))
              go_wp2_with (go_at_call 29; (with_reducible refine C29.out.mono ?_); rintro e w3 ⟨A5, c5, rfl, ho5, b5⟩; refine Hid.out ?_)
              refine Lib.hid ?_
              have HO5 := Lib.hid ho5
              have HB5 := Lib.hid b5
              have HO3 := Lib.hid (HP1.out.o.below b5)
              clear ho5 b5
              have C27b := Lib.hid (put_any (w.heap.size + 2) (w.heap.size + 1) v2 us (sumB c X.l) A5 (tailN c) c5 w3 HO3.out (own_RB3 HO5.out) (by have := HUL.out; have := tailN_le c; omega) (fun a hA h0 hs => by
                obtain ⟨g, cap, e, hg, -⟩ := own_holds HO5.out h0
                injection e with e1 e2 e3
                rw [e1] at hA
                cases hA
                have := HP1.out.o.lt _ hs
                simp at this
                omega))
              obtain ⟨vs, hvs⟩ : ∃ vs, us ++ escL (sumB c X.l) = vs := ⟨_, rfl⟩
              rw [hvs] at C27b
              have HVS := Lib.hid hvs
              have HVL := Lib.hid (show vs.length ≤ 41000 by rw [← hvs, List.length_append]; have := escL_len (sumB c X.l); have := sumB_len HF.out.c1 HF.out.c2 X.l; have := tailN_le c; have := HUL.out; omega)
              clear hvs f2
              go_wp2_with (go_at_call 27; (with_reducible refine C27b.out.mono ?_); rintro e w4 ⟨rfl, v4, hp⟩; refine Hid.out ?_)
              refine Lib.hid ?_
              have HP2 := Lib.hid hp
              clear hp
              obtain ⟨A4, c4, rfl⟩ := HP2.out.o.form
              have k4 := HP2.out.o.blk.cell 0
              simp at k4
              go_wp2_with (at_builtin; go_must (refine wpList_app_own (base := w.heap.size + 2) (n := vs.length) (m := 1) (xs := vs.map Go.Proofs.Ytibkhjpjneoabaa.u8) (news := [.int .u8 126]) rfl (.tmp 28) (.tmp 29) 28 rfl el22 rfl (own_alloc HP2.out.o.own) rfl (Holds.one _ _ _) (by simp [Value.oneCell']) (by have := HVL.out; unfold maxLen; omega) (by have := HVL.out; omega) (by have := HP2.out.o.base; simp; omega) ?_; intro v6 w6 hown hg hat; refine Hid.out ?_))
              refine Lib.hid ?_
              obtain ⟨A6, c6, rfl, -⟩ := own_form hown
              have HQ := Lib.hid (HP2.out.o.push (ys := [126]) hown hg hat)
              have hk6 := (HP2.out.o.blk.alloc (.cells #[.int .u8 126] 5)).grown hg (by have := HP2.out.o.ne; intro e; exact this e.symm)
              have k6 := hk6.cell 0
              have z6 := hk6.frozen 0
              simp at k6
              clear hown hg hat hk6 k4
              have HPP := Lib.hid (show PutS wo (w6.setCell ⟨w.heap.size + 1, 0, none⟩ (.slice A6 (vs.length + 1) c6)) (w.heap.size + 2) (w.heap.size + 1) (.slice A1 zs.length c1) (vs ++ [126]) (.slice A6 (vs.length + 1) c6) from
                (HP1.out.trans (PutS.trans ⟨HO3.out, Only.of_below HB5.out, Hat.refl _ _⟩ HP2.out)).trans ⟨HQ.out.1, HQ.out.2.1, HQ.out.2.2⟩)
              have SFL := Lib.hid (show ∀ b, SFo (w.heap.size + 1) (.slice A1 zs.length c1) b → w.heap.size < b from fun b hs => by
                rcases hs with e | e
                · omega
                · have := (HO.out.own.lt _ e).1; omega)
              have HBZ := Lib.hid (HB.out.trans (HPP.out.only.to_below HB.out.size fun b hb hs => by have := SFL.out b hs; omega))
              have HKZ := Lib.hid (HK.out.only HPP.out.only fun hs => by have := SFL.out _ hs; omega)
              go_wp2_with fail
              go_roundw
              case rel =>
                refine ⟨i + 1, .slice A6 (vs.length + 1) c6, by have := HLT.out; omega, by go_num, Lib.hid ⟨?_, by rw [HPS.out, HPE.out, HE0.out], HBZ.out, HKZ.out⟩⟩
                rw [HPS.out, HPB.out]
                have e1 : zs ++ packB 2 m c X.l = vs ++ [126] := by
                  unfold packB
                  rw [if_neg (by decide), escL_app, ← HVS.out, ← HUS.out]
                  simp [List.append_assoc]
                rw [e1]
                exact HPP.out.o
              case measure => have := HLT.out; simp [intOf]; omega
    · have HLE := Lib.hid (show i = len by omega)
      have ko := HI.out.1.blk.cell 0
      have zo := HI.out.1.blk.frozen 0
      simp at ko
      obtain ⟨A1, c1, rfl⟩ := HI.out.1.form
      have HH := Lib.hid HI.out
      go_wp2_with fail
      have hk9 := HH.out.1.blk.set_ 0 (.slice A1 (encB k m c (pks f i)).length c1)
      simp at hk9
      have hE := HH.out.2.1
      rw [HLE.out] at hE
      refine bodyPost_ret (v := .tuple #[.slice A1 (encB k m c (pks f i)).length c1, .int .i64 0]) (enc_res w.heap.size (w.heap.size + 1) _ _ 0 _ rfl rfl hk9) rfl ⟨A1, (encB k m c (pks f i)).length, c1, by rw [hE], by rw [hE, if_pos rfl, HLE.out], ?_, Below.setCell HH.out.2.2.1 (by simp) _⟩
      rw [hE, if_pos rfl]
      have ho := own_base (own_setCell (a := ⟨w.heap.size + 1, 0, none⟩) HH.out.1.own HH.out.1.ne (.slice A1 (encB k m c (pks f i)).length c1)) (show w.heap.size ≤ w.heap.size + 2 by omega)
      rw [HLE.out] at ho ⊢
      exact ho
end Go.Proofs.Ytibkhjpjneoabaa
