/- The examples of the chapter. -/
import Derived.Test.YthgbnpafhkhjpaaPa3
import Derived.Test.YthgbnpafhkhjpaaStr
namespace Go.Proofs.Ythgbnpafhkhjpaa
open Go.RowKit
set_option linter.unusedVariables false
set_option linter.unusedSimpArgs false

theorem Two.to_below {g B : Nat} {v : Value} {w w1 w2 : World} (h : Two g v w1 w2) (hb : Below B w w1) (hB : B ≤ w1.heap.size) (hg : B ≤ g) (hv : ∀ k, v.ownBlock = some k → B ≤ k) : Below B w w2 :=
  hb.trans ⟨h.os, h.tape, h.output, h.size, fun k hk => h.block k (by omega) (by omega) (fun e => by have := hv k e; omega)⟩
theorem WS.vb {w : World} {B g : Nat} {t : TypeId} {rest : List Value} {v : Value} {bs : List Bool} (h : WS w B g t rest v bs) : ∀ k, v.ownBlock = some k → B ≤ k := fun k hk => (h.own.lt k hk).1
theorem holds_bytes (W : World) (l : List UInt8) (n : Nat) (hn : l.length = n) : Holds (W.alloc (.cells (l.map u8).toArray 5)) (some ⟨W.heap.size, 0, none⟩) n (l.map u8) := by
  refine ⟨by simp [hn], (fun h => by cases h), fun b hb j u hu => ?_⟩
  cases hb
  rw [Addr.add_lit, (Blk.new W 5 _).cell, Nat.zero_add]
  simpa using hu

theorem rtake_some (B g : Nat) (v : Value) (l : List UInt8) (p : Nat) (k : Int) (w : World) (hr : RS w B g v l p) :
    Calls Try.prog 21 #[.pointer (some ⟨g, 0, none⟩), .int .i64 k] w fun e w' => ∃ v', e = .returned (.tuple #[v', .int .i64 (rE l p (takeC k 0 k p) (takeN k))]) ∧ w'.ownsRow w.heap.size 5 1 v' ((rN (rE l p (takeC k 0 k p) (takeN k)) (takeN k) + 7) / 8) ((pack (cut l p (rN (rE l p (takeC k 0 k p) (takeN k)) (takeN k)))).map u8) ∧ RS w' B g v l (p + rN (rE l p (takeC k 0 k p) (takeN k)) (takeN k)) ∧ Two g (.slice none 0 0) w w' :=
  rtake_of _ k _ _ _ (fun w' => RS w' B g v l (p + rN (rE l p (takeC k 0 k p) (takeN k)) (takeN k)) ∧ Two g (.slice none 0 0) w w') w (take_some B g v l p k 0 k w (by omega) hr)
theorem rlittle_len (l : List UInt8) (p : Nat) (k : Int) : (pack (cut l p (rN (rE l p (takeC k 1 4 p) (takeN k)) (takeN k)))).length ≤ 4 := by
  rw [pack_length, cut_length]
  unfold rN
  split
  · rename_i h
    obtain ⟨f1, _⟩ := firstE_front ([(true, 1)] ++ takeC k 1 4 p) _ (by intro c hc; simp at hc; rcases hc with rfl | hc; simp; exact takeC_nz _ _ _ _ c hc) h
    have := takeC_in (show firstE (takeC k 1 4 p) = 0 from f1)
    unfold takeN
    omega
  · omega
theorem rlittle_some (B g : Nat) (v : Value) (l : List UInt8) (p : Nat) (k : Int) (w : World) (hr : RS w B g v l p) :
    Calls Try.prog 20 #[.pointer (some ⟨g, 0, none⟩), .int .i64 k] w fun e w' => e = .returned (.tuple #[.int .i64 (leV (pack (cut l p (rN (rE l p (takeC k 1 4 p) (takeN k)) (takeN k))))), .int .i64 (rE l p (takeC k 1 4 p) (takeN k))]) ∧ RS w' B g v l (p + rN (rE l p (takeC k 1 4 p) (takeN k)) (takeN k)) ∧ Two g (.slice none 0 0) w w' :=
  rlittle_of _ k _ _ (fun w' => RS w' B g v l (p + rN (rE l p (takeC k 1 4 p) (takeN k)) (takeN k)) ∧ Two g (.slice none 0 0) w w') w (rlittle_len l p k) (by rw [pack_length, cut_length]; exact take_some B g v l p k 1 4 w (by omega) hr)
def K3 : List Bool := [true, false, true]
def K8 : List Bool := [true, false, true, false, false, false, false, false]
def K24 : List Bool := K8 ++ [false, false, false, false, false, false, true, false, false, false, false, false, false, false, false, true]

set_option maxRecDepth 100000 in
set_option maxHeartbeats 4000000 in
theorem known_any (w : World) : Calls Try.prog 9 #[] w fun e w' => e = .returned (.bool true) ∧ Below w.heap.size w w' := by
  have e3 : [] ++ numBits 5 3 = K3 := by decide
  have e8 : K3 ++ List.replicate (alignN K3.length 8) false = K8 := by decide
  have e24 : K8 ++ littleBits 258 2 = K24 := by decide
  have ep : pack K24 = [160, 2, 1] := by decide
  have E3 := Lib.hid e3
  have E8 := Lib.hid e8
  have E24 := Lib.hid e24
  have EP := Lib.hid ep
  clear e3 e8 e24 ep
  go_enter Try.func9, Try.ntmps9
  go_wp2_with fail
  (refine (newWriter_any w).mono ?_); rintro e w1 ⟨rfl, s1, b1⟩
  have S1 := Lib.hid s1
  have B1 := Lib.hid b1
  clear s1 b1
  go_wp2_with fail
  (refine (put_some _ _ _ [] 5 3 w1 S1.out (by decide)).mono ?_); rintro e w2 ⟨x, rfl, rfl, v2, s2, t2, -⟩
  have B2 := Lib.hid (t2.to_below B1.out B1.out.size (Nat.le_refl _) S1.out.vb)
  rw [E3.out] at s2
  have S2 := Lib.hid s2
  clear s2 t2
  go_wp2_with fail
  (refine (put_err _ _ _ K3 0 33 w2 S2.out (by decide) (by decide)).mono ?_); rintro e w3 ⟨x, rfl, hx, b3⟩
  obtain rfl : x = 2 := hx.trans (by decide)
  have S3 := Lib.hid (S2.out.below b3 (Nat.le_refl _))
  have B3 := Lib.hid (B2.out.trans (b3.mono B2.out.size))
  clear b3 hx
  go_wp2_with fail
  (refine (put_err _ _ _ K3 8 3 w3 S3.out (by decide) (by decide)).mono ?_); rintro e w4 ⟨x, rfl, hx, b4⟩
  obtain rfl : x = 2 := hx.trans (by decide)
  have S4 := Lib.hid (S3.out.below b4 (Nat.le_refl _))
  have B4 := Lib.hid (B3.out.trans (b4.mono B3.out.size))
  clear b4 hx
  go_wp2_with fail
  (refine (little_err _ _ _ K3 1 2 w4 S4.out (by decide) (by decide)).mono ?_); rintro e w5 ⟨x, rfl, hx, b5⟩
  obtain rfl : x = 8 := hx.trans (by decide)
  have S5 := Lib.hid (S4.out.below b5 (Nat.le_refl _))
  have B5 := Lib.hid (B4.out.trans (b5.mono B4.out.size))
  clear b5 hx
  go_wp2_with fail
  (refine (align_some _ _ _ K3 8 w5 S5.out (by decide) (by decide)).mono ?_); rintro e w6 ⟨x, rfl, rfl, v6, s6, t6, -⟩
  have B6 := Lib.hid (t6.to_below B5.out B5.out.size (Nat.le_refl _) S5.out.vb)
  rw [E8.out] at s6
  have S6 := Lib.hid s6
  clear s6 t6
  go_wp2_with fail
  (refine (little_some _ _ _ K8 258 2 w6 S6.out (by decide)).mono ?_); rintro e w7 ⟨x, rfl, rfl, v7, s7, t7, -⟩
  have B7 := Lib.hid (t7.to_below B6.out B6.out.size (Nat.le_refl _) S6.out.vb)
  rw [E24.out] at s7
  have S7 := Lib.hid s7
  clear s7 t7
  go_wp2_with fail
  (refine (wlen_some _ _ _ w7 S7.out.blk).mono ?_); rintro e w8 ⟨rfl, rfl⟩
  rw [show ((K24.length : Nat) : Int) = 24 from by decide]
  go_wp2_with fail
  (refine (out_some _ _ _ K24 w7 S7.out (by decide)).mono ?_); rintro e w8 ⟨v8, rfl, o8, b8⟩
  rw [EP.out, show (K24.length + 7) / 8 = 3 from by decide] at o8
  obtain ⟨A8, c8, rfl, -⟩ := own_form o8
  have hs8 := conv_bs (P := Try.prog) w8 27 9 5 Try.underlying27 Try.underlying5 Try.underlying9 (n := 3) (c := c8) (l := [160, 2, 1]) rfl (holds_own o8)
  have B8 := Lib.hid (B7.out.trans (b8.mono B7.out.size))
  clear o8 b8
  go_wp2_with fail
  (refine (newReader_ok _ 3 3 [160, 2, 1] _ (by decide) (holds_bytes w8 [160, 2, 1] 3 rfl) (fun h => by cases h)).mono ?_); rintro e w9 ⟨g, v, rfl, hg, r9, b9, -⟩
  have hgw : w.heap.size ≤ g := Nat.le_trans (by simp; have := B8.out.size; omega) hg
  have B9 := Lib.hid ((B8.out.alloc B8.out.size (.cells #[.int .u8 160, .int .u8 2, .int .u8 1] 5)).trans (b9.mono (by simp; have := B8.out.size; omega)))
  have R9 := Lib.hid r9
  clear r9 b9 hs8 hg
  go_wp2_with fail
  (refine (get_some _ g v [160, 2, 1] 0 4 w9 R9.out).mono ?_); rintro e w10 ⟨rfl, r10, t10⟩
  rw [show rN (rE [160, 2, 1] 0 (getC 4) 4) 4 = 4 from by decide] at r10 ⊢
  rw [show ((bitsV (cut [160, 2, 1] 0 4) : Nat) : Int) = 10 from by decide, show rE [160, 2, 1] 0 (getC 4) 4 = 0 from by decide]
  have B10 := Lib.hid (t10.to_below B9.out B9.out.size hgw (fun k hk => by cases hk))
  have R10 := Lib.hid (show RS w10 _ g v [160, 2, 1] 4 from r10)
  clear r10 t10
  go_wp2_with fail
  (refine (rtake_some _ g v [160, 2, 1] 4 1 w10 R10.out).mono ?_); rintro e w11 ⟨v11, rfl, o11, r11, t11⟩
  rw [show rN (rE [160, 2, 1] 4 (takeC 1 0 1 (4 : Nat)) (takeN 1)) (takeN 1) = 0 from by decide] at o11 r11
  obtain ⟨A11, c11, rfl, -⟩ := own_form o11
  rw [show rE [160, 2, 1] 4 (takeC 1 0 1 (4 : Nat)) (takeN 1) = 8 from by decide]
  have B11 := Lib.hid (t11.to_below B10.out B10.out.size hgw (fun k hk => by cases hk))
  have R11 := Lib.hid (show RS w11 _ g v [160, 2, 1] 4 from r11)
  clear r11 t11 o11
  go_wp2_with fail
  (refine (pad_some _ g v [160, 2, 1] 4 8 w11 R11.out).mono ?_); rintro e w12 ⟨rfl, r12, t12⟩
  rw [show padN [160, 2, 1] 4 8 = 4 from by decide] at r12
  rw [show padE [160, 2, 1] 4 8 = 0 from by decide]
  have B12 := Lib.hid (t12.to_below B11.out B11.out.size hgw (fun k hk => by cases hk))
  have R12 := Lib.hid (show RS w12 _ g v [160, 2, 1] 8 from r12)
  clear r12 t12
  go_wp2_with fail
  (refine (rlittle_some _ g v [160, 2, 1] 8 2 w12 R12.out).mono ?_); rintro e w13 ⟨rfl, r13, t13⟩
  rw [show rN (rE [160, 2, 1] 8 (takeC 2 1 4 (8 : Nat)) (takeN 2)) (takeN 2) = 16 from by decide] at r13 ⊢
  rw [show rE [160, 2, 1] 8 (takeC 2 1 4 (8 : Nat)) (takeN 2) = 0 from by decide, show ((leV (pack (cut [160, 2, 1] 8 16)) : Nat) : Int) = 258 from by decide]
  have B13 := Lib.hid (t13.to_below B12.out B12.out.size hgw (fun k hk => by cases hk))
  have R13 := Lib.hid (show RS w13 _ g v [160, 2, 1] 24 from r13)
  clear r13 t13
  go_wp2_with fail
  (refine (get_some _ g v [160, 2, 1] 24 1 w13 R13.out).mono ?_); rintro e w14 ⟨rfl, r14, t14⟩
  rw [show rN (rE [160, 2, 1] 24 (getC 1) 1) 1 = 0 from by decide] at r14 ⊢
  rw [show ((bitsV (cut [160, 2, 1] 24 0) : Nat) : Int) = 0 from by decide, show rE [160, 2, 1] 24 (getC 1) 1 = 4 from by decide]
  have B14 := Lib.hid (t14.to_below B13.out B13.out.size hgw (fun k hk => by cases hk))
  have R14 := Lib.hid (show RS w14 _ g v [160, 2, 1] 24 from r14)
  clear r14 t14
  go_wp2_with fail
  (refine (rplace_some _ _ _ _ w14 R14.out.blk).mono ?_); rintro e w15 ⟨rfl, rfl⟩
  rw [show ((24 : Nat) : Int) = 24 from rfl]
  go_wp2_with fail
  (refine (rleft_some _ _ _ _ w14 (by decide) R14.out.place R14.out.blk).mono ?_); rintro e w15 ⟨rfl, b15⟩
  rw [show ((8 * ([160, 2, 1] : List UInt8).length : Nat) : Int) - ((24 : Nat) : Int) = 0 from by decide]
  have B15 := Lib.hid (B14.out.trans (b15.mono B14.out.size))
  clear b15
  go_wp2_with fail
  (refine (newReader_ok _ 1 1 [160] _ (by decide) (holds_bytes w15 [160] 1 rfl) (fun h => by cases h)).mono ?_); rintro e w16 ⟨g2, u, rfl, hg2, r16, b16, -⟩
  have hgw2 : w.heap.size ≤ g2 := Nat.le_trans (by simp; have := B15.out.size; omega) hg2
  have B16 := Lib.hid ((B15.out.alloc B15.out.size (.cells #[.int .u8 160] 5)).trans (b16.mono (by simp; have := B15.out.size; omega)))
  have R16 := Lib.hid r16
  clear r16 b16 hg2
  go_wp2_with fail
  (refine (skip_some _ g2 u [160] 0 1 w16 R16.out).mono ?_); rintro e w17 ⟨rfl, r17, t17⟩
  rw [show rN (rE [160] 0 (skipC 1) 1) 1 = 1 from by decide] at r17
  rw [show rE [160] 0 (skipC 1) 1 = 0 from by decide]
  have B17 := Lib.hid (t17.to_below B16.out B16.out.size hgw2 (fun k hk => by cases hk))
  have R17 := Lib.hid (show RS w17 _ g2 u [160] 1 from r17)
  clear r17 t17
  go_wp2_with fail
  (refine (pad_some _ g2 u [160] 1 8 w17 R17.out).mono ?_); rintro e w18 ⟨rfl, r18, t18⟩
  rw [show padN [160] 1 8 = 0 from by decide] at r18
  rw [show padE [160] 1 8 = 6 from by decide]
  have B18 := Lib.hid (t18.to_below B17.out B17.out.size hgw2 (fun k hk => by cases hk))
  have R18 := Lib.hid (show RS w18 _ g2 u [160] 1 from r18)
  clear r18 t18
  go_wp2_with fail
  (refine (skip_some _ g2 u [160] 1 8 w18 R18.out).mono ?_); rintro e w19 ⟨rfl, r19, t19⟩
  rw [show rN (rE [160] 1 (skipC 8) 8) 8 = 0 from by decide] at r19
  rw [show rE [160] 1 (skipC 8) 8 = 4 from by decide]
  have B19 := Lib.hid (t19.to_below B18.out B18.out.size hgw2 (fun k hk => by cases hk))
  have R19 := Lib.hid (show RS w19 _ g2 u [160] 1 from r19)
  clear r19 t19
  go_wp2_with fail
  (refine (get_some _ g2 u [160] 1 7 w19 R19.out).mono ?_); rintro e w20 ⟨rfl, r20, t20⟩
  rw [show rN (rE [160] 1 (getC 7) 7) 7 = 7 from by decide]
  rw [show ((bitsV (cut [160] 1 7) : Nat) : Int) = 32 from by decide, show rE [160] 1 (getC 7) 7 = 0 from by decide]
  have B20 := Lib.hid (t20.to_below B19.out B19.out.size hgw2 (fun k hk => by cases hk))
  clear r20 t20
  go_wp2_with fail
  go_ret
  exact ⟨rfl, B20.out⟩
end Go.Proofs.Ythgbnpafhkhjpaa
