/- The walk of BitsInverts. -/
import Derived.Test.YthgbnpafhkhjpaaIn2
import Derived.Test.YthgbnpafhkhjpaaFit
namespace Go.Proofs.Ythgbnpafhkhjpaa
open Go.RowKit
set_option linter.unusedVariables false
set_option linter.unusedSimpArgs false

theorem act_new (W : World) (X : ActV) : HoldsS (W.alloc (.cells #[.int .u8 X.k, .int .i64 X.v, .int .i64 X.n, .slice X.A X.m X.c] 41)) 4 (some ⟨W.heap.size, 0, none⟩) 1 (flatA [X]) := HoldsS.new W 4 1 (flatA [X]) 41 rfl
theorem OW.grown {w0 w w' : World} {g n : Nat} {va dd : Value} {bs : List Bool} {xs : List Value} (h : OW w0 w g va bs) (hd : w.ownsRow w0.heap.size 41 4 dd n xs) (hg : w.grownBy w' dd.ownBlock) : OW w0 w' g va bs :=
  ⟨⟨h.a.blk.grown hg (fun e => own_not_blk hd h.a.blk (by decide) e.symm), own_keeps h.a.own fun k hk => hg.block k (own_lt h.a.own k hk) (fun e => own_ne h.a.own hd (by decide) k hk e.symm), Nat.le_trans h.a.base hg.size⟩, h.la, below_own h.below h.below.size hd hg⟩
theorem own_after {w0 w w' : World} {g n : Nat} {va dd : Value} {bs : List Bool} {xs : List Value} (h : OW w0 w g va bs) (hd : w.ownsRow w0.heap.size 41 4 dd n xs) (ht : Two g va w w') : w'.ownsRow w0.heap.size 41 4 dd n xs :=
  own_keeps hd fun k hk => ht.block k (own_lt hd k hk) (fun e => own_not_blk hd h.a.blk (by decide) (e ▸ hk)) (own_ne hd h.a.own (by decide) k hk)
theorem wN_yes {bs : List Bool} {X : ActV} (h : wE bs X = 0) : wN bs X = bs ++ wB bs X := by unfold wN; rw [if_pos h]
theorem wN_no {bs : List Bool} {X : ActV} (h : wE bs X ≠ 0) : wN bs X = bs := by unfold wN; rw [if_neg h]

theorem inv_keep {w wz Wb w5 : World} {B g3 k n sz : Nat} {t e : TypeId} {cs : Array Value} {v : Value} {xs : List Value} (hb : Below wz.heap.size wz Wb) (ht : Two g3 (.slice none 0 0) Wb w5) (hK : Blk wz k t cs) (hne : k ≠ g3) (hO : wz.ownsRow B e sz v n xs) (hn : v.ownBlock ≠ some g3) (hB : Below w.heap.size w wz) (hg : w.heap.size ≤ g3) : Blk w5 k t cs ∧ w5.ownsRow B e sz v n xs ∧ Below w.heap.size w w5 :=
  ⟨(hK.below hb hK.lt).two ht hne, own_two (own_keeps hO fun q hq => hb.block q (own_lt hO q hq)) ht hn, Two.below_of (hB.trans (hb.mono hB.size)) ht hg⟩
theorem known_over (w W : World) (hb : Below w.heap.size w W) : Calls Try.prog 9 #[] W fun e w' => e = .returned (.bool true) ∧ Below w.heap.size w w' :=
  (known_any W).mono fun e w' h => ⟨h.1, hb.trans (h.2.mono hb.size)⟩
set_option maxRecDepth 100000 in
set_option maxHeartbeats 8000000 in
theorem inverts_any (A : Option Addr) (n c : Nat) (f : Nat → ActV) (w : World) (hs : ActS w A n f) :
    Calls Try.prog 4 #[.slice A n c] w fun e w' => e = .returned (.bool true) ∧ Below w.heap.size w w' := by
  have CF := Lib.hid (fits_any A n c f w hs)
  have HS := Lib.hid hs
  have KN := Lib.hid (fun W (hb : Below w.heap.size w W) => known_over w W hb)
  clear hs
  go_enter Try.func4, Try.ntmps4
  go_wp2_with fail
  (with_reducible refine CF.out.mono ?_); rintro e w1 ⟨⟨t, rfl, ht⟩, rfl⟩
  clear CF
  cases t
  · clear ht
    go_wp2_with (go_at_call 9; (with_reducible refine (KN.out _ (Below.refl _ _)).mono ?_); rintro e w9 ⟨rfl, b9⟩; have B9 := Lib.hid b9; clear b9)
    go_ret
    exact ⟨rfl, B9.out⟩
  obtain ⟨hn60, hm⟩ := ht rfl
  have HM := Lib.hid hm
  have hn60' : (n : Int) ≤ 60 := by omega
  clear ht hm hn60
  go_wp2_with (go_at_call 10; (with_reducible refine (newWriter_any _).mono ?_); rintro e w1 ⟨rfl, s1, b1⟩; have OW0 := Lib.hid (⟨s1, Nat.le_refl _, b1⟩ : OW w w1 w.heap.size (.slice none 0 0) []); clear s1 b1)
  go_loopw [4, 5] (fun dd ii wr => ∃ (i : Nat) (D : List ActV) (va : Value), (i : Int) ≤ n ∧ ii = .int .i64 i ∧ D.length ≤ i ∧ (∃ Ad cd, dd = .slice Ad D.length cd) ∧ Hid (OW w wr w.heap.size va (wroteL D)) ∧ Hid (wr.ownsRow w.heap.size 41 4 dd D.length (flatA D)) ∧ Hid (Fine D) ∧ Hid (∀ X ∈ D, ActG w X ∧ X.m ≤ 50) ∧ Hid ((wroteL D).length ≤ 4096 * i)) (fun _ ii _ => n - (intOf ii).toNat)
  case atStart => exact ⟨0, [], _, by omega, rfl, by simp, ⟨none, 0, rfl⟩, OW0, Lib.hid (World.ownsRow_nil _ _ 41 4), Lib.hid Fine.nil, Lib.hid (by simp), Lib.hid (by simp [wroteL])⟩
  clear OW0
  case round =>
    obtain ⟨i, D, va, hi, rfl, hDi, ⟨Ad, cd, rfl⟩, HW, HD, HF, HG, HL⟩ := hrel
    have hi0 : (0 : Int) ≤ i := by omega
    by_cases hlt : (i : Int) < n
    · obtain ⟨b, o, rfl, hbl, hcl, hX⟩ := HS.out.2 i (by omega)
      have hm50 := HM.out i (by omega)
      generalize f i = X at *
      have HA : ∀ b, X.A = some b → 0 < X.m → b.block ≠ w.heap.size ∧ va.ownBlock ≠ some b.block := fun b hb h0 => ⟨Nat.ne_of_lt (hX.a b hb h0), fun e => by have := HW.out.a.vb _ e; have := hX.a b hb h0; omega⟩
      have CW := Lib.hid (lwrite_ws w w.heap.size va (wroteL D) X wr HW.out.a (by have := HL.out; omega) (hX.below HW.out.below) (by omega) HA)
      have HX := Lib.hid hX
      have HCL := Lib.hid hcl
      have HWL := Lib.hid (wN_le (bs := wroteL D) hX.k0 hX.l hm50)
      clear HA hX
      obtain ⟨k1, k2, k3, k4⟩ := HCL.out.keepc HW.out.below hbl
      clear hcl
      by_cases hE : wE (wroteL D) X = 0
      · have HE := Lib.hid hE
        rw [hE] at CW
        clear hE
        go_wp2_with (first
          | (go_at_call 19; (with_reducible refine CW.out.mono ?_); rintro e w2 ⟨x, rfl, rfl, va', s2, t2, -⟩; refine Hid.out ?_))
        refine Lib.hid ?_
        rw [wN_yes HE.out] at s2 HWL
        have HW2 := Lib.hid (HW.out.next s2 t2)
        have HD2 := Lib.hid (own_after HW.out HD.out t2)
        clear s2 t2 CW k1 k2 k3 k4
        obtain ⟨k1, k2, k3, k4⟩ := HCL.out.keepc HW2.out.below hbl
        go_wp2_with (first
          | (at_builtin; go_must (refine wpList_app_sz rfl (.tmp 32) (.tmp 37) 37 rfl els37 rfl (own_alloc HD2.out) rfl (act_new _ X) (act_one X) (by unfold maxLen; omega) (by omega) (by have := HW2.out.below.size; simp; omega) (by simp) ?_; intro v3 w3 hown hgr; have HO3 := Lib.hid hown; have HW3 := Lib.hid ((HW2.out.over ((Below.refl _ _).alloc (Nat.le_refl _) _)).grown (own_alloc HD2.out) hgr); clear hown hgr)))
        go_roundw
        case rel =>
          refine ⟨i + 1, D ++ [X], va', by omega, by go_num, by simp; omega, ?_, Lib.hid (by rw [wroteL_snoc]; exact HW3.out), Lib.hid (by rw [flatA_append, List.length_append]; exact HO3.out), Lib.hid (HF.out.snoc HE.out), Lib.hid ?_, Lib.hid (by rw [wroteL_snoc]; have := HWL.out; have := HL.out; omega)⟩
          · obtain ⟨A3, c3, e3, -⟩ := own_formS HO3.out
            exact ⟨A3, c3, by rw [e3]; simp⟩
          · intro Y hY
            rcases List.mem_append.1 hY with h | h
            · exact HG.out Y h
            · obtain rfl : Y = X := by simpa using h
              exact ⟨HX.out, hm50⟩
        case measure => simp [intOf]; omega
      · have HE := Lib.hid hE
        have hEq : (wE (wroteL D) X == 0) = false := by simpa using hE
        generalize hEE : wE (wroteL D) X = E at *
        have HEE := Lib.hid hEE
        clear hE hEE
        go_wp2_with (first
          | (go_at_call 19; (with_reducible refine CW.out.mono ?_); rintro e w2 ⟨x, rfl, rfl, va', s2, t2, -⟩; rw [wN_no (by rw [HEE.out]; exact HE.out)] at s2; have HW2 := Lib.hid (HW.out.next s2 t2); have HD2 := Lib.hid (own_after HW.out HD.out t2); clear s2 t2))
        go_roundw
        case rel => exact ⟨i + 1, D, va', by omega, by go_num, by omega, ⟨_, _, rfl⟩, HW2, HD2, HF, HG, Lib.hid (by have := HL.out; omega)⟩
        case measure => simp [intOf]; omega
    · have hi60 : i ≤ 60 := by omega
      clear hi0 hi
      have hlen : (wroteL D).length ≤ 245760 := by have := HL.out; omega
      have HLEN := Lib.hid hlen
      have CO := Lib.hid (out_some _ _ va (wroteL D) wr HW.out.a (by omega))
      have hDn : (D.length : Int) ≤ 60 := by omega
      clear hlen
      go_wp2_with (first
        | (go_at_call 12; (with_reducible refine CO.out.mono ?_); rintro e w2 ⟨v2, rfl, ho2, b2⟩; obtain ⟨A2, c2, rfl, -, -, h02, -⟩ := own_form ho2; have C14 := Lib.hid (newReader_ok A2 _ c2 _ w2 (by have := HLEN.out; omega) (holds_own ho2) (fun h => (h02 h).2)); have HB2 := Lib.hid b2; clear ho2 b2 h02)
        | (go_at_call 14; (with_reducible refine C14.out.mono ?_); rintro e w3 ⟨g3, v3, rfl, hg3, r3, b3, -⟩; have HR3 := Lib.hid r3; have HB3 := Lib.hid (HB2.out.trans (b3.mono HB2.out.size)); have HG3 := Lib.hid hg3; have HB23 := Lib.hid HB2.out.size; clear r3 b3 hg3))
      have HRB := Lib.hid (show RS w3 w.heap.size g3 v3 (pack (wroteL D)) 0 from ⟨HR3.out.blk, own_base HR3.out.own (Nat.le_trans HW.out.below.size HB23.out), Nat.le_trans (Nat.le_trans HW.out.below.size HB23.out) (Nat.le_trans (by have := HR3.out.base; omega) (Nat.le_refl _)), HR3.out.place, HR3.out.small⟩)
      have HK := Lib.hid (HW.out.a.blk.below HB3.out HW.out.a.blk.lt)
      have HDD := Lib.hid (own_keeps HD.out fun k hk => HB3.out.block k (own_lt HD.out k hk))
      have HBW := Lib.hid (HW.out.below.trans (HB3.out.mono HW.out.below.size))
      have HGN := Lib.hid (show w.heap.size ≠ g3 by have := HW.out.a.blk.lt; have := HB23.out; have := HG3.out; omega)
      have HGL := Lib.hid (show w.heap.size ≤ g3 by have := HW.out.below.size; have := HB23.out; have := HG3.out; omega)
      have HDN := Lib.hid (show (Value.slice Ad D.length cd).ownBlock ≠ some g3 from fun e => by have := own_lt HD.out _ e; have := HB23.out; have := HG3.out; omega)
      generalize hd : D.length = d at *
      have HDL := Lib.hid hd
      clear HR3 HB3 HB2 HB23 HG3 C14 CO HW HD HLEN HL hd hDi hi60
      go_loopw [8] (fun ii wz => ∃ i : Nat, (i : Int) ≤ d ∧ ii = .int .i64 i ∧ Hid (RS wz w.heap.size g3 v3 (pack (wroteL D)) (wroteL (D.take i)).length) ∧ Hid (Blk wz w.heap.size 63 #[va, .int .i64 (wroteL D).length, .bool true]) ∧ Hid (wz.ownsRow w.heap.size 41 4 (.slice Ad d cd) d (flatA D)) ∧ Hid (Below w.heap.size w wz)) (fun ii _ => d - (intOf ii).toNat)
      case atStart => exact ⟨0, by omega, rfl, HRB, HK, HDD, HBW⟩
      clear HRB HK HDD HBW
      case round =>
        obtain ⟨i, hi, rfl, HR, HK, HO, HB⟩ := hrel
        have hi0 : (0 : Int) ≤ i := by omega
        by_cases hlt : (i : Int) < d
        · have hid' : i < D.length := by rw [HDL.out]; omega
          obtain ⟨gd, ⟨cc, hcc⟩, hcl⟩ := actC_own HO.out HDL.out i hid'
          cases hcc
          obtain ⟨k1, k2, k3, k4⟩ := hcl
          rw [Nat.zero_add] at k1 k2 k3 k4
          obtain ⟨C, hC⟩ := wroteL_split D i hid'
          have hE := HF.out i hid'
          obtain ⟨hXG, hX50⟩ := HG.out D[i] (List.getElem_mem hid')
          have HTK := Lib.hid (congrArg List.length (wroteL_take D i hid'))
          have HRR := Lib.hid (HR.out)
          rw [hC] at HRR
          generalize wroteL (D.take i) = P at *
          generalize D[i] = X at *
          have hXl := hXG.l
          have hk0 := hXG.k0
          have hr : X.k.tmod 4 = X.k % 4 := Int.tmod_eq_emod_of_nonneg hk0
          have bb : Below wr.heap.size wr (wr.alloc (.cells #[.int .u8 X.k, .int .i64 X.v, .int .i64 X.n, .slice X.A X.m X.c] 41)) := (Below.refl _ _).alloc (Nat.le_refl _) _
          have HRX := Lib.hid (HRR.out.over bb)
          have BB := Lib.hid bb
          have KX := Lib.hid (Blk.new wr 41 #[.int .u8 X.k, .int .i64 X.v, .int .i64 X.n, .slice X.A X.m X.c])
          have HXG := Lib.hid hXG
          have HGW := Lib.hid HR.out.blk.lt
          have HC := Lib.hid hC
          clear hXG bb hC HRR HF HG
          rcases (show X.k % 4 = 0 ∨ X.k % 4 = 1 ∨ X.k % 4 = 2 ∨ X.k % 4 = 3 by omega) with h4 | h4 | h4 | h4
          · have q0 : (X.k % 4 == 0) = true := by simp [h4]
            have CX := Lib.hid (back_get h4 hE HRX.out)
            clear hE h4
            go_wp2_with (go_at_call 16; (with_reducible refine CX.out.mono ?_); rintro e w5 ⟨rfl, r5, t5⟩; obtain ⟨p1, p2, p3⟩ := inv_keep BB.out t5 HK.out HGN.out HO.out HDN.out HB.out HGL.out; have R5 := Lib.hid r5; have P1 := Lib.hid p1; have P2 := Lib.hid p2; have P3 := Lib.hid p3; clear r5 t5 p1 p2 p3)
            go_roundw
            case rel => exact ⟨i + 1, by omega, by go_num, Lib.hid (by rw [HTK.out, List.length_append, HC.out]; exact R5.out), P1, P2, P3⟩
            case measure => simp [intOf]; omega
          · have q0 : (X.k % 4 == 0) = false := by simp [h4]
            have q1 : (X.k % 4 == 1) = true := by simp [h4]
            have CX := Lib.hid (back_little h4 hE HRX.out)
            clear hE h4
            go_wp2_with (go_at_call 20; (with_reducible refine CX.out.mono ?_); rintro e w5 ⟨rfl, r5, t5⟩; obtain ⟨p1, p2, p3⟩ := inv_keep BB.out t5 HK.out HGN.out HO.out HDN.out HB.out HGL.out; have R5 := Lib.hid r5; have P1 := Lib.hid p1; have P2 := Lib.hid p2; have P3 := Lib.hid p3; clear r5 t5 p1 p2 p3)
            go_roundw
            case rel => exact ⟨i + 1, by omega, by go_num, Lib.hid (by rw [HTK.out, List.length_append, HC.out]; exact R5.out), P1, P2, P3⟩
            case measure => simp [intOf]; omega
          · have q0 : (X.k % 4 == 0) = false := by simp [h4]
            have q1 : (X.k % 4 == 1) = false := by simp [h4]
            have q2 : (X.k % 4 == 2) = true := by simp [h4]
            have CX := Lib.hid (back_take h4 hXl hE HRX.out)
            clear hE h4
            go_wp2_with (go_at_call 21; (with_reducible refine CX.out.mono ?_); rintro e w5 ⟨A5, c5, rfl, h5, r5, t5⟩; obtain ⟨p1, p2, p3⟩ := inv_keep BB.out t5 HK.out HGN.out HO.out HDN.out HB.out HGL.out; have kx5 := KX.out.two t5 (by have := HGW.out; omega); have e5 := kx5.cell 3; simp only [List.getElem?_toArray, List.getElem?_cons_zero, List.getElem?_cons_succ] at e5; have cv1 := conv_bs (P := Try.prog) w5 27 9 5 Try.underlying27 Try.underlying5 Try.underlying9 (c := c5) hXl h5; have cv2 := conv_bs (P := Try.prog) w5 27 9 5 Try.underlying27 Try.underlying5 Try.underlying9 (c := X.c) hXl (HXG.out.h.keep p3); have R5 := Lib.hid r5; have P1 := Lib.hid p1; have P2 := Lib.hid p2; have P3 := Lib.hid p3; clear r5 t5 p1 p2 p3 h5 kx5)
            go_roundw
            case rel => exact ⟨i + 1, by omega, by go_num, Lib.hid (by rw [HTK.out, List.length_append, HC.out]; exact R5.out), P1, P2, P3⟩
            case measure => simp [intOf]; omega
          · have q0 : (X.k % 4 == 0) = false := by simp [h4]
            have q1 : (X.k % 4 == 1) = false := by simp [h4]
            have q2 : (X.k % 4 == 2) = false := by simp [h4]
            have CX := Lib.hid (back_pad h4 hE HRX.out)
            clear hE h4
            go_wp2_with (go_at_call 22; (with_reducible refine CX.out.mono ?_); rintro e w5 ⟨rfl, r5, t5⟩; obtain ⟨p1, p2, p3⟩ := inv_keep BB.out t5 HK.out HGN.out HO.out HDN.out HB.out HGL.out; have R5 := Lib.hid r5; have P1 := Lib.hid p1; have P2 := Lib.hid p2; have P3 := Lib.hid p3; clear r5 t5 p1 p2 p3)
            go_roundw
            case rel => exact ⟨i + 1, by omega, by go_num, Lib.hid (by rw [HTK.out, List.length_append, HC.out]; exact R5.out), P1, P2, P3⟩
            case measure => simp [intOf]; omega
        · obtain rfl : i = d := by omega
          have hta : D.take i = D := List.take_of_length_le (by rw [HDL.out]; exact Nat.le_refl _)
          have hr := HR.out
          rw [hta] at hr
          clear hta HR
          obtain ⟨z1, z2⟩ := inv_end (wroteL D)
          have C23 := Lib.hid (rplace_some g3 v3 _ _ wr hr.blk)
          have CP := Lib.hid (pad_some _ g3 v3 _ _ 8 wr hr)
          have HZ2 := Lib.hid z2
          have HSM := Lib.hid hr.small
          rw [z1] at CP
          generalize hL : (wroteL D).length = L at *
          clear hr z1 z2 hL hlt hi hi0 HG HF
          go_wp2_with (first
            | (go_at_call 23; (with_reducible refine C23.out.mono ?_); rintro e w5 ⟨rfl, rfl⟩)
            | (go_at_call 13; (with_reducible refine (wlen_some _ _ _ _ HK.out).mono ?_); rintro e w5 ⟨rfl, rfl⟩)
            | (go_at_call 22; (with_reducible refine CP.out.mono ?_); rintro e w6 ⟨rfl, r6, t6⟩; have R6 := Lib.hid r6; have B6 := Lib.hid (t6.below_of HB.out HGL.out); have C24 := Lib.hid (rleft_some g3 v3 (8 * (pack (wroteL D)).length) (8 * (pack (wroteL D)).length) w6 (by have := HSM.out; omega) (Nat.le_refl _) (by have := r6.blk; rw [HZ2.out] at this; exact this)); clear r6 t6)
            | (go_at_call 24; (with_reducible refine C24.out.mono ?_); rintro e w7 ⟨rfl, b7⟩; have B7 := Lib.hid (B6.out.trans (b7.mono B6.out.size)); clear b7)
            | (go_at_call 9; (with_reducible refine (KN.out _ B7.out).mono ?_); rintro e w8 ⟨rfl, b8⟩; have B8 := Lib.hid b8; clear b8))
          go_ret
          exact ⟨rfl, B8.out⟩
end Go.Proofs.Ythgbnpafhkhjpaa
