/- The reference's Encode. -/
import Derived.Test.YtibkhjpjneoabaaFd
import Derived.Deep.CutRange
namespace Go.Proofs.Ytibkhjpjneoabaa
open Go.RowKit
set_option linter.unusedVariables false
set_option linter.unusedSimpArgs false

/-- Bytes of the call's own. -/
structure Out2 (w W : World) (v : Value) (xs : List UInt8) : Prop where
  own : W.ownsRow w.heap.size 5 1 v xs.length (xs.map u8)
  below : Below w.heap.size w W
theorem Out2.form {w W : World} {v : Value} {xs : List UInt8} (h : Out2 w W v xs) : ∃ A c, v = .slice A xs.length c := by
  obtain ⟨A, c, e, -⟩ := own_form h.own
  exact ⟨A, c, e⟩
theorem Out2.over {w W W2 : World} {v : Value} {xs : List UInt8} (h : Out2 w W v xs) (hb : Below W.heap.size W W2) : Out2 w W2 v xs :=
  ⟨own_keeps h.own fun g hg => hb.block g (own_lt h.own g hg), h.below.trans (hb.mono h.below.size)⟩
theorem Out2.push {w W W2 : World} {v v2 : Value} {xs ys : List UInt8} {o : Obj} (h : Out2 w W v xs) (hown : W2.ownsRow w.heap.size 5 1 v2 (xs.length + ys.length) (xs.map u8 ++ ys.map u8)) (hg : (W.alloc o).grownBy W2 v.ownBlock) : Out2 w W2 v2 (xs ++ ys) :=
  ⟨by rw [List.length_append, List.map_append]; exact hown, below_own (h.below.alloc h.below.size o) (by have := h.below.size; simp; omega) (own_alloc h.own) hg⟩
theorem Out2.push0 {w W W2 : World} {v v2 : Value} {xs ys : List UInt8} (h : Out2 w W v xs) (hown : W2.ownsRow w.heap.size 5 1 v2 (xs.length + ys.length) (xs.map u8 ++ ys.map u8)) (hg : W.grownBy W2 v.ownBlock) : Out2 w W2 v2 (xs ++ ys) :=
  ⟨by rw [List.length_append, List.map_append]; exact hown, below_own h.below h.below.size h.own hg⟩
theorem Holds.two (w : World) (x y : Value) (t : TypeId) : Holds (w.alloc (.cells #[x, y] t)) (some ⟨w.heap.size, 0, none⟩) 2 [x, y] :=
  ⟨rfl, fun h => (by cases h), fun b hb j u hu => by
    cases hb
    have := (Blk.new w t #[x, y]).cell j
    have e : (Addr.add ⟨w.heap.size, 0, none⟩ j) = ⟨w.heap.size, j, none⟩ := by cases j <;> simp [Addr.add]
    rw [e, this]
    simpa using hu⟩
/-- Two rows that lie apart. -/
def Apart (v u : Value) : Prop := ∀ j, v.ownBlock = some j → u.ownBlock ≠ some j
theorem own_apart {W W2 : World} {B n : Nat} {v u : Value} {xs : List Value} (h : W.ownsRow B 5 1 u n xs) (ha : Apart v u) (hg : W.grownBy W2 v.ownBlock) : W2.ownsRow B 5 1 u n xs :=
  own_keeps h fun g hg' => hg.block g (own_lt h g hg') fun e => ha g e.symm hg'
theorem Apart.next {W : World} {B n : Nat} {v v2 u : Value} {xs : List Value} (ha : Apart v u) (h : W.ownsRow B 5 1 u n xs) (hat : v2.ownBlock = v.ownBlock ∨ ∃ s, v2.ownBlock = some s ∧ W.heap.size ≤ s) : Apart v2 u := fun j hj => by
  rcases hat with e | ⟨s, e, hs⟩
  · exact ha j (e ▸ hj)
  · rw [e] at hj; cases hj
    intro hu
    have := own_lt h _ hu
    omega

set_option maxRecDepth 100000 in
theorem renc_bad (k m c : Int) (hF : BadF k m c) (L : Option Addr) (len cL : Nat) (w : World) :
    Calls Try.prog 12 #[FV k m c, .slice L len cL] w fun e w' => e = .returned (.tuple #[.slice none 0 0, .int .i64 2]) ∧ Below w.heap.size w w' := by
  have C14 := Lib.hid (rvalid_no k m c (w.alloc (.cells #[.int .i64 k, .int .i64 m, .int .i64 c] 24)) hF)
  unfold FV at C14 ⊢
  clear hF
  go_enter Try.func12, Try.ntmps12
  go_wp2_with (go_at_call 14; (with_reducible refine C14.out.mono ?_); rintro e w1 ⟨rfl, b1⟩; have HB1 := Lib.hid b1; clear b1)
  go_ret2
  exact ⟨rfl, ((Below.refl _ w).alloc (Nat.le_refl _) _).trans (HB1.out.mono (by simp))⟩
set_option maxRecDepth 100000 in
theorem enc_bad (k m c : Int) (hF : BadF k m c) (L : Option Addr) (len cL : Nat) (w : World) :
    Calls Try.prog 11 #[FV k m c, .slice L len cL] w fun e w' => e = .returned (.tuple #[.slice none 0 0, .int .i64 2]) ∧ Below w.heap.size w w' := by
  obtain ⟨W0, hW0⟩ : ∃ W0, (w.alloc (.cells #[.int .i64 k, .int .i64 m, .int .i64 c] 24)).alloc (.cells #[.slice none 0 0] 28) = W0 := ⟨_, rfl⟩
  have hb0 : Below w.heap.size w W0 := hW0 ▸ ((Below.refl _ w).alloc (Nat.le_refl _) _).alloc (by simp) _
  have ko : Blk W0 (w.heap.size + 1) 28 #[.slice none 0 0] := by have := Blk.new (w.alloc (.cells #[.int .i64 k, .int .i64 m, .int .i64 c] 24)) 28 #[.slice none 0 0]; rw [World.size_alloc, hW0] at this; exact this
  have kf : Blk W0 w.heap.size 24 #[.int .i64 k, .int .i64 m, .int .i64 c] := hW0 ▸ (Blk.new w 24 _).alloc _
  obtain ⟨f0, f1, f2⟩ : W0.cell? ⟨w.heap.size, 0, none⟩ = some (.int .i64 k) ∧ W0.cell? ⟨w.heap.size, 1, none⟩ = some (.int .i64 m) ∧ W0.cell? ⟨w.heap.size, 2, none⟩ = some (.int .i64 c) := ⟨kf.cell 0, kf.cell 1, kf.cell 2⟩
  have C13 := Lib.hid (valid_no k m c W0 hF)
  unfold FV at C13 ⊢
  have HW0 := Lib.hid hW0
  have HB0 := Lib.hid hb0
  have KO := Lib.hid ko
  clear hF hW0 hb0 ko kf
  go_enter Try.func11, Try.ntmps11
  go_upto_region 1 with fail
  rw [HW0.out]
  go_wp2_with (go_at_call 13; (with_reducible refine C13.out.mono ?_); rintro e w1 ⟨rfl, b1⟩; have HB1 := Lib.hid b1; have k1 := KO.out.below b1 KO.out.lt; have kq := k1.cell 0; have zq := k1.frozen 0; simp at kq; have K1 := Lib.hid k1; clear b1 k1)
  have hk9 := K1.out.set_ 0 (.slice none 0 0)
  simp at hk9
  exact bodyPost_ret (v := .tuple #[.slice none 0 0, .int .i64 2]) (enc_res w.heap.size (w.heap.size + 1) _ _ 2 _ rfl rfl hk9) rfl ⟨rfl, Below.setCell (HB0.out.trans (HB1.out.mono HB0.out.size)) (by simp) _⟩

set_option maxRecDepth 100000 in
set_option maxHeartbeats 4000000 in
theorem renc_any (k m c : Int) (hF : OkF k m c) (L : Option Addr) (len cL : Nat) (f : Nat → Pk) (w : World) (hs : PSS w L len f) (hlen : len ≤ 20) (h7 : ∀ i, i < len → (f i).l.length ≤ 700) :
    Calls Try.prog 12 #[FV k m c, .slice L len cL] w (Enced w (encErr k m c (pks f len)) (encB k m c (pks f len))) := by
  unfold FV
  obtain ⟨W0, hW0⟩ : ∃ W0, w.alloc (.cells #[.int .i64 k, .int .i64 m, .int .i64 c] 24) = W0 := ⟨_, rfl⟩
  have hb0 : Below w.heap.size w W0 := hW0 ▸ (Below.refl _ w).alloc (Nat.le_refl _) _
  have kf : Blk W0 w.heap.size 24 #[.int .i64 k, .int .i64 m, .int .i64 c] := hW0 ▸ Blk.new w 24 _
  have C14 := Lib.hid (rvalid_yes k m c W0 hF)
  have HF := Lib.hid hF
  have HS := Lib.hid hs
  have HL := Lib.hid hlen
  have H7 := Lib.hid h7
  have HB0 := Lib.hid hb0
  have KF := Lib.hid kf
  have HW0 := Lib.hid hW0
  have hl20 : (len : Int) ≤ 20 := by omega
  obtain ⟨f0, f1, f2⟩ : W0.cell? ⟨w.heap.size, 0, none⟩ = some (.int .i64 k) ∧ W0.cell? ⟨w.heap.size, 1, none⟩ = some (.int .i64 m) ∧ W0.cell? ⟨w.heap.size, 2, none⟩ = some (.int .i64 c) := ⟨kf.cell 0, kf.cell 1, kf.cell 2⟩
  clear hF hs hlen h7 hb0 kf hW0
  go_enter Try.func12, Try.ntmps12
  go_upto_region 1 with fail
  rw [HW0.out]
  clear HW0
  unfold FV at C14
  go_wp2_with (go_at_call 14; (with_reducible refine C14.out.mono ?_); rintro e w1 ⟨rfl, b1⟩; have HB1 := Lib.hid b1; clear b1)
  go_loopw [6, 7] (fun oo ii wr => ∃ (i : Nat) (v1 : Value), (i : Int) ≤ len ∧ ii = .int .i64 i ∧ v1 = oo ∧ Hid (Out2 w wr v1 (encB k m c (pks f i)) ∧ encErr k m c (pks f i) = 0 ∧ Blk wr w.heap.size 24 #[.int .i64 k, .int .i64 m, .int .i64 c])) (fun _ ii _ => len - (intOf ii).toNat)
  case atStart => exact ⟨0, .slice none 0 0, by omega, rfl, rfl, Lib.hid ⟨⟨by simpa [encB, pks] using World.ownsRow_nil _ _ 5 1, HB0.out.trans (HB1.out.mono HB0.out.size)⟩, by simp [encErr, pks], KF.out.below HB1.out KF.out.lt⟩⟩
  clear f0 f1 f2
  case round =>
    obtain ⟨i, v1, hi, rfl, rfl, HI⟩ := hrel
    have hi0 : (0 : Int) ≤ i := by omega
    obtain ⟨wo, rfl⟩ : ∃ wo : World, wo = wr := ⟨_, rfl⟩
    by_cases hlt : (i : Int) < len
    · obtain ⟨b, o, rfl, hbl, hc, hr⟩ := HS.out.2 i (by omega)
      have hl7 := H7.out i (by omega)
      have HPS := Lib.hid (pks_succ f i)
      have HSP := Lib.hid (pks_split f (show i + 1 ≤ len by omega))
      generalize f i = X at *
      obtain ⟨HO, HE, HK⟩ : Hid (Out2 w wo v1 (encB k m c (pks f i))) ∧ Hid (encErr k m c (pks f i) = 0) ∧ Hid (Blk wo w.heap.size 24 #[.int .i64 k, .int .i64 m, .int .i64 c]) := ⟨Lib.hid HI.out.1, Lib.hid HI.out.2.1, Lib.hid HI.out.2.2⟩
      have kx := (HO.out.below.cell (p := ⟨b, o + i, none⟩) hbl).trans hc
      have HR := Lib.hid (hr.below HO.out.below)
      obtain ⟨f0, f1, f2⟩ : wo.cell? ⟨w.heap.size, 0, none⟩ = some (.int .i64 k) ∧ wo.cell? ⟨w.heap.size, 1, none⟩ = some (.int .i64 m) ∧ wo.cell? ⟨w.heap.size, 2, none⟩ = some (.int .i64 c) := ⟨HK.out.cell 0, HK.out.cell 1, HK.out.cell 2⟩
      have hln : X.l.length = X.n := HR.out.len
      have HLN := Lib.hid hln
      have HN := Lib.hid (show X.n ≤ 700 by omega)
      have HEL := Lib.hid (encB_len (k := k) (m := m) HF.out.c1 HF.out.c2 f i (fun j hj => H7.out j (by have := hlt; omega)))
      have HIL := Lib.hid (show i ≤ 19 by omega)
      have HLT := Lib.hid hlt
      have HPE := Lib.hid (encErr_ok k m c (pks f i) X.l HE.out)
      have HPB := Lib.hid (encB_snoc k m c (pks f i) X.l)
      generalize encB k m c (pks f i) = zs at *
      obtain ⟨A1, c1, rfl⟩ := HO.out.form
      clear hbl hc hr hln hl7 HI
      by_cases hm : m < (X.n : Int)
      · have q1 : decide (m < (X.n : Int)) = true := by simpa using hm
        have HE5 := Lib.hid (show packErr k m c X.l = 5 by unfold packErr; rw [HLN.out, if_pos hm])
        clear hm
        go_wp2_with fail
        obtain ⟨r, hrr⟩ := HSP.out
        have hEE : encErr k m c (pks f len) = 5 := by
          rw [hrr, HPS.out, encErr_bad _ _ _ _ _ (by rw [HPE.out, HE5.out]; decide), HPE.out, HE5.out]
        go_ret2
        exact ⟨none, 0, 0, by rw [hEE]; rfl, by rw [hEE]; rfl, by rw [hEE]; exact World.ownsRow_nil _ _ 5 1, HO.out.below⟩
      · have q1 : decide (m < (X.n : Int)) = false := by simpa using hm
        have HM := Lib.hid (show ¬ m < (X.l.length : Int) by rw [HLN.out]; exact hm)
        have C30 := Lib.hid (sealed_any k m c HF.out.c1 HF.out.c2 X.A X.n X.c X.l wo HR.out (by have := HN.out; omega))
        unfold FV at C30
        clear hm
        by_cases hz : X.n = 0 ∧ k = 2 ∧ c = 0
        · obtain ⟨hz1, rfl, rfl⟩ := hz
          have q2 : ((X.n : Int) == 0) = true := by simp; omega
          have HE4 := Lib.hid (show packErr 2 m 0 X.l = 4 by unfold packErr; rw [if_neg HM.out, if_pos ⟨rfl, by rw [HLN.out, hz1], rfl⟩])
          clear hz1
          go_wp2_with fail
          obtain ⟨r, hrr⟩ := HSP.out
          have hEE : encErr 2 m 0 (pks f len) = 4 := by
            rw [hrr, HPS.out, encErr_bad _ _ _ _ _ (by rw [HPE.out, HE4.out]; decide), HPE.out, HE4.out]
          go_ret2
          exact ⟨none, 0, 0, by rw [hEE]; rfl, by rw [hEE]; rfl, by rw [hEE]; exact World.ownsRow_nil _ _ 5 1, HO.out.below⟩
        · have HE0 := Lib.hid (show packErr k m c X.l = 0 by unfold packErr; rw [if_neg HM.out, if_neg (fun h => hz ⟨by rw [← HLN.out]; exact h.2.1, h.1, h.2.2⟩)])
          go_upto_region 10 with fail
          go_cut [43] from 31 to 42 (fun z wx => z = .bool false ∧ wx = wo)
          case first =>
            by_cases h1 : X.n = 0
            · have q2 : ((X.n : Int) == 0) = true := by simp; omega
              by_cases h2 : k = 2
              · have q3 : (k == 2) = true := by simpa using h2
                have q4 : (c == 0) = false := by simpa using fun e => hz ⟨h1, h2, e⟩
                clear h1 h2 hz
                go_wp2_with fail
                go_meet
                exact ⟨rfl, rfl⟩
              · have q3 : (k == 2) = false := by simpa using h2
                clear h1 h2 hz
                go_wp2_with fail
                go_meet
                exact ⟨rfl, rfl⟩
            · have q2 : ((X.n : Int) == 0) = false := by simp; omega
              clear h1 hz
              go_wp2_with fail
              go_meet
              exact ⟨rfl, rfl⟩
          case rest =>
            obtain ⟨rfl, rfl⟩ := hcut
            clear hz
            go_wp2_with (go_at_call 30; (with_reducible refine C30.out.mono ?_); rintro e w2 ⟨A2, c2, rfl, ho2, b2⟩; refine Hid.out ?_)
            refine Lib.hid ?_
            have HO2 := Lib.hid ho2
            have HB2 := Lib.hid b2
            have HZ2 := Lib.hid (HO.out.over b2)
            have HK2 := Lib.hid (HK.out.below b2 HK.out.lt)
            clear ho2 b2 f0 f1 f2 kx
            obtain ⟨f0, f1, f2⟩ : w2.cell? ⟨w.heap.size, 0, none⟩ = some (.int .i64 k) ∧ w2.cell? ⟨w.heap.size, 1, none⟩ = some (.int .i64 m) ∧ w2.cell? ⟨w.heap.size, 2, none⟩ = some (.int .i64 c) := ⟨HK2.out.cell 0, HK2.out.cell 1, HK2.out.cell 2⟩
            rcases HF.out.k with rfl | rfl
            · have C31 := Lib.hid (Vr.rwrite_yes X.n w2 (by have := HN.out; omega))
              go_wp2_with (go_at_call 31; (with_reducible refine C31.out.mono ?_); rintro e w3 ⟨val, rfl, ho3, b3⟩; refine Hid.out ?_)
              refine Lib.hid ?_
              obtain ⟨A3, c3, rfl, -⟩ := own_form ho3
              have HO3 := Lib.hid ho3
              have HB3 := Lib.hid b3
              have HZ3 := Lib.hid (HZ2.out.over b3)
              have HO23 := Lib.hid (own_keeps HO2.out fun g hg => b3.block g (own_lt HO2.out g hg))
              have HK3 := Lib.hid (HK2.out.below b3 HK2.out.lt)
              clear ho3 b3 f0 f1 f2
              go_wp2_with (at_builtin; go_must (refine wpList_app_own (base := w.heap.size) (n := zs.length) (m := Vr.k0 X.n + 1) (xs := zs.map Go.Proofs.Ytibkhjpjneoabaa.u8) (news := (Vr.formB X.n (Vr.k0 X.n)).map Go.Proofs.Ytibkhjpjneoabaa.u8) rfl (.tmp 56) (.tmp 57) 28 rfl el22 rfl HZ3.out.own rfl (holds_own HO3.out) (u8_one _) (by have := HEL.out; have := HIL.out; have := Vr.k0_le X.n; unfold maxLen; omega) (by have := HEL.out; have := HIL.out; have := Vr.k0_le X.n; omega) HZ3.out.below.size ?_; intro v4 w4 hown hg hat; refine Hid.out ?_))
              refine Lib.hid ?_
              obtain ⟨A4, c4, rfl, -⟩ := own_form hown
              have HZ4 := Lib.hid (show Out2 w w4 (.slice A4 (zs.length + (Vr.k0 X.n + 1)) c4) (zs ++ Vr.formB X.n (Vr.k0 X.n)) from HZ3.out.push0 (by rw [Vr.formB_length]; exact hown) hg)
              have HAP := Lib.hid (show Apart (.slice A1 zs.length c1) (.slice A2 (X.n + tailN c) c2) from fun j hj hu => by have := own_lt HO.out.own j hj; have := (HO2.out.lt j hu).1; omega)
              have HO24 := Lib.hid (own_apart HO23.out HAP.out hg)
              have HAP4 := Lib.hid (HAP.out.next HO23.out (by rcases hat with e | e; exact .inl e; exact .inr ⟨_, e, Nat.le_refl _⟩))
              have HK4 := Lib.hid (HK3.out.grown hg (fun e => own_ne HZ3.out.own HK3.out (by decide) e.symm))
              clear hown hg hat
              go_wp2_with (at_builtin; go_must (refine wpList_app_own (base := w.heap.size) (n := zs.length + (Vr.k0 X.n + 1)) (m := X.n + tailN c) (xs := (zs ++ Vr.formB X.n (Vr.k0 X.n)).map Go.Proofs.Ytibkhjpjneoabaa.u8) (news := (X.l ++ sumB c X.l).map Go.Proofs.Ytibkhjpjneoabaa.u8) rfl (.tmp 58) (.tmp 59) 28 rfl el22 rfl (by have := HZ4.out.own; rw [List.length_append, Vr.formB_length] at this; exact this) rfl (holds_own HO24.out) (u8_one _) (by have := HEL.out; have := HIL.out; have := Vr.k0_le X.n; have := HN.out; have := tailN_le c; unfold maxLen; omega) (by have := HEL.out; have := HIL.out; have := Vr.k0_le X.n; have := HN.out; have := tailN_le c; omega) HZ4.out.below.size ?_; intro v5 w5 hown hg hat; refine Hid.out ?_))
              refine Lib.hid ?_
              obtain ⟨A5, c5, rfl, -⟩ := own_form hown
              have HZ5 := Lib.hid (show Out2 w w5 (.slice A5 (zs.length + (Vr.k0 X.n + 1) + (X.n + tailN c)) c5) (zs ++ Vr.formB X.n (Vr.k0 X.n) ++ (X.l ++ sumB c X.l)) from HZ4.out.push0 (by rw [List.length_append, List.length_append, Vr.formB_length, HLN.out, sumB_len HF.out.c1 HF.out.c2]; exact hown) hg)
              have HK5 := Lib.hid (HK4.out.grown hg (fun e => own_ne HZ4.out.own HK4.out (by decide) e.symm))
              clear hown hg hat
              have hi20 : (i : Int) ≤ 19 := by have := HIL.out; omega
              go_wp2_with fail
              go_roundw
              case rel =>
                refine ⟨i + 1, .slice A5 (zs.length + (Vr.k0 X.n + 1) + (X.n + tailN c)) c5, by have := HLT.out; omega, by go_num, rfl, Lib.hid ⟨?_, by rw [HPS.out, HPE.out, HE0.out], HK5.out⟩⟩
                rw [HPS.out, HPB.out]
                have e1 : zs ++ packB 1 m c X.l = zs ++ Vr.formB X.n (Vr.k0 X.n) ++ (X.l ++ sumB c X.l) := by
                  unfold packB
                  rw [if_pos rfl, HLN.out]
                  simp [List.append_assoc]
                rw [e1]
                exact HZ5.out
              case measure => have := HLT.out; simp [intOf]; omega
            · have hsl0 : (X.l ++ sumB c X.l).length = X.n + tailN c := by rw [List.length_append, HLN.out, sumB_len HF.out.c1 HF.out.c2]
              have HQ := Lib.hid (show X.n + tailN c ≤ 706 by have := HN.out; have := tailN_le c; omega)
              have HAP := Lib.hid (show Apart (.slice A1 zs.length c1) (.slice A2 (X.n + tailN c) c2) from fun j hj hu => by have := own_lt HO.out.own j hj; have := (HO2.out.lt j hu).1; omega)
              have HPK := Lib.hid (show zs ++ packB 2 m c X.l = zs ++ escL (X.l ++ sumB c X.l) ++ [126] by unfold packB; rw [if_neg (by decide), List.append_assoc])
              generalize X.n + tailN c = q at *
              generalize X.l ++ sumB c X.l = sl at *
              have HSL := Lib.hid hsl0
              have hq7 : (q : Int) ≤ 706 := by have := HQ.out; omega
              clear hsl0
              clear C30
              go_wp2_with fail
              go_loopw [6, 12] (fun oo jj wr => ∃ (j : Nat) (v2 : Value), (j : Int) ≤ q ∧ jj = .int .i64 j ∧ v2 = oo ∧ Hid (Out2 w wr v2 (zs ++ escL (sl.take j)) ∧ (∃ B, wr.ownsRow B 5 1 (.slice A2 q c2) q (sl.map Go.Proofs.Ytibkhjpjneoabaa.u8)) ∧ Apart v2 (.slice A2 q c2) ∧ Blk wr w.heap.size 24 #[.int .i64 2, .int .i64 m, .int .i64 c])) (fun _ jj _ => q - (intOf jj).toNat)
              case atStart => exact ⟨0, .slice A1 zs.length c1, by omega, rfl, rfl, Lib.hid ⟨by simpa [escL] using HZ2.out, ⟨_, HO2.out⟩, HAP.out, HK2.out⟩⟩
              case round =>
                obtain ⟨j, v2, hj, rfl, rfl, HJ⟩ := hrel
                have hj0 : (0 : Int) ≤ j := by omega
                obtain ⟨wj, rfl⟩ : ∃ wj : World, wj = wr := ⟨_, rfl⟩
                obtain ⟨us, hus⟩ : ∃ us, zs ++ escL (sl.take j) = us := ⟨_, rfl⟩
                have HU := Lib.hid hus
                rw [hus] at HJ
                obtain ⟨B3, hB3⟩ := HJ.out.2.1
                obtain ⟨HO, HSJ, HAJ, HKJ⟩ : Hid (Out2 w wj v2 us) ∧ Hid (wj.ownsRow B3 5 1 (.slice A2 q c2) q (sl.map Go.Proofs.Ytibkhjpjneoabaa.u8)) ∧ Hid (Apart v2 (.slice A2 q c2)) ∧ Hid (Blk wj w.heap.size 24 #[.int .i64 2, .int .i64 m, .int .i64 c]) := ⟨Lib.hid HJ.out.1, Lib.hid hB3, Lib.hid HJ.out.2.2.1, Lib.hid HJ.out.2.2.2⟩
                have HUL := Lib.hid (show us.length ≤ 1420 * 19 + 1412 by
                  rw [← hus, List.length_append]
                  have h1 := escL_len (sl.take j)
                  rw [List.length_take] at h1
                  have h2 := HSL.out
                  have h3 := HQ.out
                  have h4 := HEL.out
                  have h5 := HIL.out
                  have h6 : min j sl.length ≤ sl.length := Nat.min_le_right _ _
                  omega)
                obtain ⟨f0, f1, f2⟩ : wj.cell? ⟨w.heap.size, 0, none⟩ = some (.int .i64 2) ∧ wj.cell? ⟨w.heap.size, 1, none⟩ = some (.int .i64 m) ∧ wj.cell? ⟨w.heap.size, 2, none⟩ = some (.int .i64 c) := ⟨HKJ.out.cell 0, HKJ.out.cell 1, HKJ.out.cell 2⟩
                obtain ⟨A5, c5, rfl⟩ := HO.out.form
                clear hus HJ hB3
                by_cases hlt2 : (j : Int) < q
                · have hjl : j < sl.length := by have := HSL.out; omega
                  obtain ⟨b9, o9, hA9, -, hc9⟩ := (own_RB3 HSJ.out).bs (by omega)
                  have kx := hc9 j hjl
                  obtain ⟨y, hy⟩ : ∃ y, sl[j] = y := ⟨_, rfl⟩
                  obtain ⟨x, hx⟩ : ∃ x : Int, (y.toNat : Int) = x := ⟨_, rfl⟩
                  have hx0 : 0 ≤ x := by omega
                  have hx1 : x < 256 := by have := y.toNat_lt; omega
                  rw [hy, hx] at kx
                  have HY := Lib.hid hx
                  have HTK := Lib.hid (show sl.take (j + 1) = sl.take j ++ [y] by rw [List.take_succ_eq_append_getElem hjl, hy])
                  subst hA9
                  have HLT2 := Lib.hid hlt2
                  clear hc9 hx hy
                  by_cases h6 : x = 126 ∨ x = 125
                  · rcases h6 with rfl | rfl
                    · have hy6 : y = 126 := by
                        apply UInt8.toNat_inj.1
                        have := HY.out
                        show y.toNat = 126
                        omega
                      subst hy6
                      go_wp2_with (at_builtin; go_must (refine wpList_app_own (base := w.heap.size) (n := us.length) (m := 2) (xs := us.map Go.Proofs.Ytibkhjpjneoabaa.u8) (news := [.int .u8 125, .int .u8 94]) rfl (.tmp 79) (.tmp 85) 28 rfl el22 rfl (own_alloc HO.out.own) rfl (Holds.two _ _ _ _) (by simp [Value.oneCell']) (by have := HUL.out; unfold maxLen; omega) (by have := HUL.out; omega) (by have := HO.out.below.size; simp; omega) ?_; intro v4 w4 hown hg hat; refine Hid.out ?_))
                      refine Lib.hid ?_
                      
                      
                      obtain ⟨A4, c4, rfl, -⟩ := own_form hown
                      have HP := Lib.hid (HO.out.push (ys := [125, 94]) hown hg)
                      have HS4 := Lib.hid (own_apart (own_alloc HSJ.out) HAJ.out hg)
                      have HA4 := Lib.hid (HAJ.out.next (own_alloc HSJ.out) (by rcases hat with e | e; exact .inl e; exact .inr ⟨_, e, Nat.le_refl _⟩))
                      have HK4 := Lib.hid ((HKJ.out.alloc _).grown hg (fun e => own_ne HO.out.own HKJ.out (by decide) e.symm))
                      clear hown hg hat kx
                      go_wp2_with fail
                      go_roundw
                      case rel =>
                        refine ⟨j + 1, .slice A4 (us.length + 2) c4, by have := HLT2.out; omega, by go_num, rfl, Lib.hid ⟨?_, ⟨_, HS4.out⟩, HA4.out, HK4.out⟩⟩
                        have e1 : zs ++ escL (sl.take (j + 1)) = us ++ [125, 94] := by
                          rw [HTK.out, escL_snoc, ← List.append_assoc, HU.out]
                          congr 1
                          
                        rw [e1]
                        exact HP.out
                      case measure => have := HLT2.out; simp [intOf]; omega
                    · have hy6 : y = 125 := by
                        apply UInt8.toNat_inj.1
                        have := HY.out
                        show y.toNat = 125
                        omega
                      subst hy6
                      go_wp2_with (at_builtin; go_must (refine wpList_app_own (base := w.heap.size) (n := us.length) (m := 2) (xs := us.map Go.Proofs.Ytibkhjpjneoabaa.u8) (news := [.int .u8 125, .int .u8 93]) rfl (.tmp 79) (.tmp 85) 28 rfl el22 rfl (own_alloc HO.out.own) rfl (Holds.two _ _ _ _) (by simp [Value.oneCell']) (by have := HUL.out; unfold maxLen; omega) (by have := HUL.out; omega) (by have := HO.out.below.size; simp; omega) ?_; intro v4 w4 hown hg hat; refine Hid.out ?_))
                      refine Lib.hid ?_
                      
                      
                      obtain ⟨A4, c4, rfl, -⟩ := own_form hown
                      have HP := Lib.hid (HO.out.push (ys := [125, 93]) hown hg)
                      have HS4 := Lib.hid (own_apart (own_alloc HSJ.out) HAJ.out hg)
                      have HA4 := Lib.hid (HAJ.out.next (own_alloc HSJ.out) (by rcases hat with e | e; exact .inl e; exact .inr ⟨_, e, Nat.le_refl _⟩))
                      have HK4 := Lib.hid ((HKJ.out.alloc _).grown hg (fun e => own_ne HO.out.own HKJ.out (by decide) e.symm))
                      clear hown hg hat kx
                      go_wp2_with fail
                      go_roundw
                      case rel =>
                        refine ⟨j + 1, .slice A4 (us.length + 2) c4, by have := HLT2.out; omega, by go_num, rfl, Lib.hid ⟨?_, ⟨_, HS4.out⟩, HA4.out, HK4.out⟩⟩
                        have e1 : zs ++ escL (sl.take (j + 1)) = us ++ [125, 93] := by
                          rw [HTK.out, escL_snoc, ← List.append_assoc, HU.out]
                          congr 1
                          
                        rw [e1]
                        exact HP.out
                      case measure => have := HLT2.out; simp [intOf]; omega
                  · have q1 : (x == 126) = false := by simp; omega
                    have q2 : (x == 125) = false := by simp; omega
                    go_wp2_with (at_builtin; go_must (refine wpList_app_own (base := w.heap.size) (n := us.length) (m := 1) (xs := us.map Go.Proofs.Ytibkhjpjneoabaa.u8) (news := [.int .u8 x]) rfl (.tmp 87) (.tmp 92) 28 rfl el22 rfl (own_alloc HO.out.own) rfl (Holds.one _ _ _) (by simp [Value.oneCell']) (by have := HUL.out; unfold maxLen; omega) (by have := HUL.out; omega) (by have := HO.out.below.size; simp; omega) ?_; intro v4 w4 hown hg hat; refine Hid.out ?_))
                    refine Lib.hid ?_
                    have hux : [Value.int .u8 x] = [y].map Go.Proofs.Ytibkhjpjneoabaa.u8 := by rw [← HY.out]; rfl
                    rw [hux] at hown
                    clear hux
                    obtain ⟨A4, c4, rfl, -⟩ := own_form hown
                    have HP := Lib.hid (HO.out.push (ys := [y]) hown hg)
                    have HS4 := Lib.hid (own_apart (own_alloc HSJ.out) HAJ.out hg)
                    have HA4 := Lib.hid (HAJ.out.next (own_alloc HSJ.out) (by rcases hat with e | e; exact .inl e; exact .inr ⟨_, e, Nat.le_refl _⟩))
                    have HK4 := Lib.hid ((HKJ.out.alloc _).grown hg (fun e => own_ne HO.out.own HKJ.out (by decide) e.symm))
                    clear hown hg hat kx
                    go_wp2_with fail
                    go_roundw
                    case rel =>
                      refine ⟨j + 1, .slice A4 (us.length + 1) c4, by have := HLT2.out; omega, by go_num, rfl, Lib.hid ⟨?_, ⟨_, HS4.out⟩, HA4.out, HK4.out⟩⟩
                      have e1 : zs ++ escL (sl.take (j + 1)) = us ++ [y] := by
                        rw [HTK.out, escL_snoc, ← List.append_assoc, HU.out]
                        congr 1
                        unfold escB
                        rw [if_neg]
                        rintro (rfl | rfl)
                        · have := HY.out; simp at q1; exact q1 (this ▸ rfl)
                        · have := HY.out; simp at q2; exact q2 (this ▸ rfl)
                      rw [e1]
                      exact HP.out
                    case measure => have := HLT2.out; simp [intOf]; omega
                · have HLE2 := Lib.hid (show j = q by omega)
                  go_wp2_with (at_builtin; go_must (refine wpList_app_own (base := w.heap.size) (n := us.length) (m := 1) (xs := us.map Go.Proofs.Ytibkhjpjneoabaa.u8) (news := [.int .u8 126]) rfl (.tmp 94) (.tmp 95) 28 rfl el22 rfl (own_alloc HO.out.own) rfl (Holds.one _ _ _) (by simp [Value.oneCell']) (by have := HUL.out; unfold maxLen; omega) (by have := HUL.out; omega) (by have := HO.out.below.size; simp; omega) ?_; intro v4 w4 hown hg hat; refine Hid.out ?_))
                  refine Lib.hid ?_
                  obtain ⟨A4, c4, rfl, -⟩ := own_form hown
                  have HP := Lib.hid (HO.out.push (ys := [126]) hown hg)
                  have HK4 := Lib.hid ((HKJ.out.alloc _).grown hg (fun e => own_ne HO.out.own HKJ.out (by decide) e.symm))
                  clear hown hg hat f0 f1 f2
                  have hi20 : (i : Int) ≤ 19 := by have := HIL.out; omega
                  go_wp2_with fail
                  go_roundw
                  case rel =>
                    refine ⟨i + 1, .slice A4 (us.length + 1) c4, by have := HLT.out; omega, by go_num, rfl, Lib.hid ⟨?_, by rw [HPS.out, HPE.out, HE0.out], HK4.out⟩⟩
                    rw [HPS.out, HPB.out, HPK.out]
                    have e1 := HU.out
                    rw [HLE2.out, List.take_of_length_le (Nat.le_of_eq HSL.out)] at e1
                    rw [e1]
                    exact HP.out
                  case measure => have := HLT.out; simp [intOf]; omega
    · have HLE := Lib.hid (show i = len by omega)
      obtain ⟨A1, c1, rfl⟩ := HI.out.1.form
      have HH := Lib.hid HI.out
      go_wp2_with fail
      have hE := HH.out.2.1
      rw [HLE.out] at hE
      go_ret2
      refine ⟨A1, (encB k m c (pks f i)).length, c1, by rw [hE]; rfl, by rw [hE, if_pos rfl, HLE.out], ?_, HH.out.1.below⟩
      rw [hE, if_pos rfl]
      have ho := HH.out.1.own
      rw [HLE.out] at ho ⊢
      exact ho
end Go.Proofs.Ytibkhjpjneoabaa
