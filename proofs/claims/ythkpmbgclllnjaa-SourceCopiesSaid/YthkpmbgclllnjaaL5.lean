/- The walk of SourceCopies. -/
import Derived.Test.YthkpmbgclllnjaaL4
namespace Go.Proofs.Ythkpmbgclllnjaa
open Go.RowKit
set_option linter.unusedVariables false
set_option linter.unusedSimpArgs false

theorem SF.of_lt {bt bb : Nat} {v : Value} {s k : Nat} (hk : SF bt bb v k) (h1 : s ≤ bt) (h2 : s ≤ bb) (h3 : ∀ j, v.ownBlock = some j → s ≤ j) : s ≤ k := by
  rcases hk with rfl | rfl | hk
  · exact h1
  · exact h2
  · exact h3 k hk

set_option maxRecDepth 100000 in
set_option maxHeartbeats 4000000 in
theorem copies_law (lim : Int) (L : Option Addr) (len cL : Nat) (f : Nat → ActV) (La : Option Addr) (lena cLa : Nat) (fa : Nat → ActV) (Lb : Option Addr) (lenb cLb : Nat) (fb : Nat → ActV) (w : World) (_ : (Lit.int .i64 lim).wf = true) (hs : ActS w L len f) (hsa : ActS w La lena fa) (hsb : ActS w Lb lenb fb) :
    Calls Try.prog 5 #[.int .i64 lim, .slice L len cL, .slice La lena cLa, .slice Lb lenb cLb] w fun e w' => e = .returned (.bool true) ∧ Below w.heap.size w w' := by
  have F := Lib.hid (fits_any L len cL f w hs)
  have Fa := Lib.hid (fits_any La lena cLa fa w hsa)
  have Fb := Lib.hid (fits_any Lb lenb cLb fb w hsb)
  have KN := Lib.hid (show ∀ W, Below w.heap.size w W → Calls Try.prog 8 #[] W (fun e w' => e = .returned (.bool true) ∧ Below w.heap.size w w') from fun W hb => (known_any W).mono fun e w' ⟨he, hb'⟩ => ⟨he, hb.trans (hb'.mono hb.size)⟩)
  have HS := Lib.hid hs
  have HSa := Lib.hid hsa
  have HSb := Lib.hid hsb
  clear hs hsa hsb
  go_enter Try.func5, Try.ntmps5
  go_wp2_with (go_at_call 15; (with_reducible refine F.out.mono ?_); rintro e w1 ⟨⟨t, rfl, ht⟩, rfl⟩; refine Hid.out ?_)
  refine Lib.hid ?_
  cases t
  · clear ht
    go_wp2_with (go_at_call 8; (with_reducible refine (KN.out _ (Below.refl _ _)).mono ?_); rintro e w9 ⟨rfl, b9⟩; have B9 := Lib.hid b9; clear b9)
    go_ret
    exact ⟨rfl, B9.out⟩
  have HM := Lib.hid (ht rfl)
  clear ht
  go_wp2_with (go_at_call 15; (with_reducible refine Fa.out.mono ?_); rintro e w1 ⟨⟨t, rfl, ht⟩, rfl⟩; refine Hid.out ?_)
  refine Lib.hid ?_
  cases t
  · clear ht
    go_wp2_with (go_at_call 8; (with_reducible refine (KN.out _ (Below.refl _ _)).mono ?_); rintro e w9 ⟨rfl, b9⟩; have B9 := Lib.hid b9; clear b9)
    go_ret
    exact ⟨rfl, B9.out⟩
  have HMa := Lib.hid (ht rfl)
  clear ht
  go_wp2_with (go_at_call 15; (with_reducible refine Fb.out.mono ?_); rintro e w1 ⟨⟨t, rfl, ht⟩, rfl⟩; refine Hid.out ?_)
  refine Lib.hid ?_
  cases t
  · clear ht
    go_wp2_with (go_at_call 8; (with_reducible refine (KN.out _ (Below.refl _ _)).mono ?_); rintro e w9 ⟨rfl, b9⟩; have B9 := Lib.hid b9; clear b9)
    go_ret
    exact ⟨rfl, B9.out⟩
  have HMb := Lib.hid (ht rfl)
  clear ht
  by_cases hl1 : lim < 1
  · have q1 : decide (lim < 1) = true := by simpa using hl1
    clear hl1
    go_wp2_with (go_at_call 8; (with_reducible refine (KN.out _ (Below.refl _ _)).mono ?_); rintro e w9 ⟨rfl, b9⟩; have B9 := Lib.hid b9; clear b9)
    go_ret
    exact ⟨rfl, B9.out⟩
  by_cases hl2 : 1000 < lim
  · have q1 : decide (lim < 1) = false := by simpa using hl1
    have q2 : decide (1000 < lim) = true := by simpa using hl2
    clear hl1 hl2
    go_wp2_with (go_at_call 8; (with_reducible refine (KN.out _ (Below.refl _ _)).mono ?_); rintro e w9 ⟨rfl, b9⟩; have B9 := Lib.hid b9; clear b9)
    go_ret
    exact ⟨rfl, B9.out⟩
  have q1 : decide (lim < 1) = false := by simpa using hl1
  have q2 : decide (1000 < lim) = false := by simpa using hl2
  obtain ⟨n, rfl⟩ : ∃ n : Nat, lim = n := ⟨lim.toNat, by omega⟩
  have C9 := Lib.hid (new_ok n w (by omega) (by omega))
  have C16 := Lib.hid (fun W => rnew_ok n W (by omega) (by omega))
  clear hl1 hl2
  go_wp2_with (first
    | (go_at_call 9; (with_reducible refine C9.out.mono ?_); rintro e w2 ⟨bs, bt, bb, rfl, s2, b2, h1, h2, h3⟩; have B2 := Lib.hid b2; have S2 := Lib.hid s2; have HG := Lib.hid (And.intro h1 (And.intro h2 h3)); clear b2 s2 h1 h2 h3)
    | (go_at_call 16; (with_reducible refine (C16.out _).mono ?_); rintro e w3 ⟨rfl, b3⟩; have B3 := Lib.hid (B2.out.trans (b3.mono B2.out.size)); have S3 := Lib.hid (S2.out.below b3); clear b3; refine Hid.out ?_))
  refine Lib.hid ?_
  have HGa := Lib.hid (Blk.new w3 37 #[.int .i64 0, .slice none 0 0, .int .i64 0, .bool false])
  obtain ⟨t0, t1, t2, t3⟩ := four _ _ _ _ _ _ HGa.out
  obtain ⟨z0, z1, z2, z3⟩ := fourz _ _ _ _ _ _ HGa.out
  go_wp2_with fail
  clear t0 t1 t2 t3 z0 z1 z2 z3
  obtain ⟨w4, hw4⟩ : ∃ w4, w3.alloc (.cells #[.int .i64 n, .slice none 0 0, .int .i64 0, .bool false] 37) = w4 := ⟨_, rfl⟩
  have HX4 := Lib.hid (show Blk w4 w3.heap.size 37 #[.int .i64 n, .slice none 0 0, .int .i64 0, .bool false] from hw4 ▸ Blk.new w3 37 _)
  have B4 := Lib.hid (show Below w.heap.size w w4 from hw4 ▸ B3.out.alloc B3.out.size _)
  have S4 := Lib.hid (show SS w4 w.heap.size bs bt bb (.slice none 0 0) n (([] : List UInt8).drop 0) 0 false from hw4 ▸ S3.out.below ((Below.refl _ _).alloc (Nat.le_refl _) _))
  have C17 := Lib.hid (show Calls Try.prog 17 #[.pointer (some ⟨bs, 0, none⟩), .agg #[.int .i64 n, .slice none 0 0, .int .i64 0, .bool false], .slice L len cL] w4 (RunP w4 w.heap.size bs bt bb (.slice none 0 0) n 0 len none) from run_any w w4 L len cL f HS.out HM.out.1 HM.out.2 B4.out S4.out HG.out.2.1 HG.out.2.2 (RB.nil _) (fun a ha => by cases ha) (Nat.le_refl _) (by omega) (fun a ha => by cases ha))
  have H34 := Lib.hid (show w.heap.size ≤ w3.heap.size from B3.out.size)
  rw [hw4]
  clear hw4
  (with_reducible refine C17.out.mono ?_); rintro e w5 ⟨A5, n5, c5, all5, tk5, cl5, v5, rfl, hro⟩
  have R5 := Lib.hid hro
  have HX5 := Lib.hid (HX4.out.only hro.only (S4.out.notSF HX4.out (by decide) (by decide) (by decide)))
  have B5 := Lib.hid (hro.below B4.out HG.out.2.1 HG.out.2.2 (fun k hk => by cases hk))
  clear hro
  obtain ⟨t0, t1, t2, t3⟩ := four _ _ _ _ _ _ HX5.out
  obtain ⟨z0, z1, z2, z3⟩ := fourz _ _ _ _ _ _ HX5.out
  go_wp2_with (go_at_call 18; refine Hid.out ?_)
  refine Lib.hid ?_
  clear t0 t1 t2 t3 z0 z1 z2 z3
  obtain ⟨w6, hw6⟩ : ∃ w6, ((((w5.setCell ⟨w3.heap.size, 0, none⟩ (.int .i64 n)).setCell ⟨w3.heap.size, 1, none⟩ (.slice A5 n5 c5)).setCell ⟨w3.heap.size, 2, none⟩ (.int .i64 (tk5 : Nat))).setCell ⟨w3.heap.size, 3, none⟩ (.bool cl5)) = w6 := ⟨_, rfl⟩
  have HOn := Lib.hid (show Only (fun k => k = w3.heap.size) w5 w6 from hw6 ▸ Only.set (p := fun k => k = w3.heap.size) (Only.set (p := fun k => k = w3.heap.size) (Only.set (p := fun k => k = w3.heap.size) (Only.set (p := fun k => k = w3.heap.size) (Only.refl _ _) (fun _ => rfl) 0 _) (fun _ => rfl) 1 _) (fun _ => rfl) 2 _) (fun _ => rfl) 3 _)
  have HX6 := Lib.hid (show Blk w6 w3.heap.size 37 #[.int .i64 n, .slice A5 n5 c5, .int .i64 tk5, .bool cl5] from hw6 ▸ set4 HX5.out _ _ _ _)
  have S6 := Lib.hid (R5.out.ss.only HOn.out fun k hk (e : k = w3.heap.size) => by
    rcases hk with hk | hk
    · exact R5.out.ss.src.ne HX5.out (by decide) (hk.symm.trans e)
    · exact R5.out.ss.notSF HX5.out (by decide) (by decide) (by decide) (e ▸ hk))
  have RB6 := Lib.hid (R5.out.rb.only HOn.out fun a hA h0 => RB.ne R5.out.rb h0 hA HX5.out (cs4 _ _ _ _ (fun z e => by cases e)))
  have B6 := Lib.hid (B5.out.trans (HOn.out.to_below B5.out.size fun b hb (e : b = w3.heap.size) => by have := H34.out; omega))
  have N5 := Lib.hid (show n5 ≤ 6000 by have := R5.out.nn; have := HM.out.1; omega)
  have C18 := Lib.hid (copy_ok S6.out)
  have C18' := Lib.hid (show Calls Try.prog 18 #[.pointer (some ⟨bs, 0, none⟩)] w6 (fun e w' => ∃ cs ct cb v', e = .returned (.pointer (some ⟨cs, 0, none⟩)) ∧ SS w' w6.heap.size cs ct cb v' n (all5.drop tk5) tk5 cl5 ∧ Below w6.heap.size w6 w' ∧ w6.heap.size ≤ cs ∧ w6.heap.size ≤ ct ∧ w6.heap.size ≤ cb) from C18.out)
  rw [hw6]
  clear hw6 C18
  (with_reducible refine C18'.out.mono ?_); rintro e w7 ⟨cs, ct, cb, v7, rfl, s7, b7, g1, g2, g3⟩
  have HG7 := Lib.hid (And.intro g1 (And.intro g2 g3))
  have B67 := Lib.hid b7
  have B7 := Lib.hid (B6.out.trans (b7.mono B6.out.size))
  have S7 := Lib.hid (S6.out.below b7)
  have RB7 := Lib.hid (RB6.out.below b7)
  have HX7 := Lib.hid (HX6.out.below b7 HX6.out.lt)
  have O7 := Lib.hid s7
  have OV7 := Lib.hid (show ∀ j, v7.ownBlock = some j → w6.heap.size ≤ j from fun j hj => (s7.own.lt j hj).1)
  have OL7 := Lib.hid (show SS w7 w.heap.size cs ct cb v7 n (all5.drop tk5) tk5 cl5 from s7.lower B6.out.size)
  clear s7 b7 g1 g2 g3
  obtain ⟨t0, t1, t2, t3⟩ := four _ _ _ _ _ _ HX7.out
  have C19 := Lib.hid (show Calls Try.prog 19 #[.pointer (some ⟨cs, 0, none⟩), .agg #[.int .i64 n, .slice A5 n5 c5, .int .i64 tk5, .bool cl5]] w7 (fun e w' => e = .returned (.bool true) ∧ Below w7.heap.size w7 w') from is_any cl5 O7.out RB7.out R5.out.tn (by have := N5.out; omega))
  go_wp2_with (go_at_call 19; (with_reducible refine C19.out.mono ?_); rintro e w8 ⟨rfl, b8⟩; refine Hid.out ?_)
  refine Lib.hid ?_
  clear t0 t1 t2 t3
  have B78 := Lib.hid b8
  have B8 := Lib.hid (B7.out.trans (b8.mono B7.out.size))
  have S8 := Lib.hid (S7.out.below b8)
  have RB8 := Lib.hid (RB7.out.below b8)
  have HX8 := Lib.hid (HX7.out.below b8 HX7.out.lt)
  have O8 := Lib.hid (OL7.out.below b8)
  have H68 := Lib.hid (show w6.heap.size ≤ w8.heap.size from Nat.le_trans B67.out.size b8.size)
  clear b8
  obtain ⟨t0, t1, t2, t3⟩ := four _ _ _ _ _ _ HX8.out
  have SEP5 := Lib.hid R5.out.sep
  have C17a := Lib.hid (show Calls Try.prog 17 #[.pointer (some ⟨bs, 0, none⟩), .agg #[.int .i64 n, .slice A5 n5 c5, .int .i64 tk5, .bool cl5], .slice La lena cLa] w8 (RunP w8 w.heap.size bs bt bb v5 n n5 lena A5) from run_any w w8 La lena cLa fa HSa.out HMa.out.1 HMa.out.2 B8.out S8.out HG.out.2.1 HG.out.2.2 RB8.out R5.out.sp R5.out.tn (by have := N5.out; omega) R5.out.sep)
  go_wp2_with (go_at_call 17; (with_reducible refine C17a.out.mono ?_); rintro e w9 ⟨A9, n9, c9, all9, tk9, cl9, v9, rfl, hro⟩; refine Hid.out ?_)
  refine Lib.hid ?_
  clear t0 t1 t2 t3
  have R9 := Lib.hid hro
  have B9 := Lib.hid (hro.below B8.out HG.out.2.1 HG.out.2.2 (fun k hk => (S8.out.own.lt k hk).1))
  have SO := Lib.hid (show ∀ k, k = cs ∨ SF ct cb v7 k → w6.heap.size ≤ k ∧ k < w8.heap.size from fun k hk => ⟨by
    rcases hk with rfl | hk
    · exact HG7.out.1
    · exact hk.of_lt HG7.out.2.1 HG7.out.2.2 OV7.out, O8.out.lt k hk⟩)
  have SS6 := Lib.hid (show ∀ k, k = bs ∨ SF bt bb v5 k → k < w6.heap.size from fun k hk => S6.out.lt k hk)
  have SS9 := Lib.hid (show ∀ k, k = bs ∨ SF bt bb v9 k → k < w6.heap.size ∨ w8.heap.size ≤ k from fun k hk => by
    rcases hk with rfl | rfl | rfl | hk
    · exact .inl (SS6.out _ (.inl rfl))
    · exact .inl (SS6.out _ (.inr (.inl rfl)))
    · exact .inl (SS6.out _ (.inr (.inr (.inl rfl))))
    · rcases R9.out.hat with h | h
      · exact .inl (SS6.out _ (.inr (.inr (.inr (h ▸ hk)))))
      · exact .inr (h k hk))
  have O9 := Lib.hid (O8.out.only hro.only fun k hk hs => by
    have := (SO.out k hk).1
    have := SS6.out k (.inr hs)
    omega)
  have RB9 := Lib.hid (RB8.out.only hro.only SEP5.out)
  clear hro
  have HGb := Lib.hid (Blk.new w9 37 #[.int .i64 0, .slice none 0 0, .int .i64 0, .bool false])
  obtain ⟨t0, t1, t2, t3⟩ := four _ _ _ _ _ _ HGb.out
  obtain ⟨z0, z1, z2, z3⟩ := fourz _ _ _ _ _ _ HGb.out
  have HX9 := Lib.hid ((HX8.out.only R9.out.only (S8.out.notSF HX8.out (by decide) (by decide) (by decide))).alloc (.cells #[.int .i64 n, .slice A9 n9 c9, .int .i64 (tk9 : Nat), .bool cl9] 37))
  obtain ⟨y0, y1, y2, y3⟩ := four _ _ _ _ _ _ HX9.out
  go_wp2_with (go_at_call 17; refine Hid.out ?_)
  refine Lib.hid ?_
  clear t0 t1 t2 t3 z0 z1 z2 z3 y0 y1 y2 y3
  obtain ⟨wa, hwa⟩ : ∃ wa, w9.alloc (.cells #[.int .i64 n, .slice A9 n9 c9, .int .i64 (tk9 : Nat), .bool cl9] 37) = wa := ⟨_, rfl⟩
  have b9a := Lib.hid (show Below w9.heap.size w9 wa from hwa ▸ (Below.refl _ _).alloc (Nat.le_refl _) _)
  have Xa := Lib.hid (show Blk wa w9.heap.size 37 #[.int .i64 n, .slice A9 n9 c9, .int .i64 (tk9 : Nat), .bool cl9] from hwa ▸ Blk.new w9 37 _)
  have Sa := Lib.hid (R9.out.ss.below b9a.out)
  have Oa := Lib.hid (O9.out.below b9a.out)
  have RBa := Lib.hid (RB9.out.below b9a.out)
  have RBx := Lib.hid (R9.out.rb.below b9a.out)
  have Ba := Lib.hid (B9.out.trans (b9a.out.mono B9.out.size))
  have N9 := Lib.hid (show n9 ≤ 12000 by have := R9.out.nn; have := N5.out; have := HMa.out.1; omega)
  have H89 := Lib.hid (show w8.heap.size ≤ w9.heap.size from R9.out.only.size)
  have SEPo := Lib.hid (show ∀ a, A5 = some a → 0 < n5 → ¬ SF ct cb v7 a.block from fun a hA h0 hs => by
    have h1 := RB6.out.lt h0 hA
    have h2 := (SO.out _ (.inr hs)).1
    omega)
  have SEPx := Lib.hid (show ∀ a, A9 = some a → 0 < n9 → ¬ SF ct cb v7 a.block from fun a hA h0 hs => by
    have h2 := (SO.out _ (.inr hs)).2
    rcases R9.out.fr with ⟨e1, e2⟩ | h
    · exact SEPo.out a (e1 ▸ hA) (e2 ▸ h0) hs
    · have := h a hA; omega)
  have C17b := Lib.hid (show Calls Try.prog 17 #[.pointer (some ⟨cs, 0, none⟩), .agg #[.int .i64 n, .slice A5 n5 c5, .int .i64 tk5, .bool cl5], .slice Lb lenb cLb] wa (RunP wa w.heap.size cs ct cb v7 n n5 lenb A5) from run_any w wa Lb lenb cLb fb HSb.out HMb.out.1 HMb.out.2 Ba.out Oa.out (Nat.le_trans B6.out.size HG7.out.2.1) (Nat.le_trans B6.out.size HG7.out.2.2) RBa.out R5.out.sp R5.out.tn (by have := N5.out; omega) SEPo.out)
  rw [hwa]
  clear hwa
  (with_reducible refine C17b.out.mono ?_); rintro e wb ⟨Ab, nb, cb', allb, tkb, clb, vb, rfl, hro⟩
  have Rb := Lib.hid hro
  have Bb := Lib.hid (hro.below Ba.out (Nat.le_trans B6.out.size HG7.out.2.1) (Nat.le_trans B6.out.size HG7.out.2.2) (fun k hk => (Oa.out.own.lt k hk).1))
  have Sb := Lib.hid (Sa.out.only hro.only fun k hk hs => by
    have h1 := SS9.out k hk
    have h2 := SO.out k (.inr hs)
    omega)
  have RBxb := Lib.hid (RBx.out.only hro.only SEPx.out)
  have Xb := Lib.hid (Xa.out.only hro.only (Oa.out.notSF Xa.out (by decide) (by decide) (by decide)))
  clear hro
  have HGc := Lib.hid (Blk.new wb 37 #[.int .i64 0, .slice none 0 0, .int .i64 0, .bool false])
  obtain ⟨t0, t1, t2, t3⟩ := four _ _ _ _ _ _ HGc.out
  obtain ⟨z0, z1, z2, z3⟩ := fourz _ _ _ _ _ _ HGc.out
  have Xb2 := Lib.hid (Xb.out.alloc (.cells #[.int .i64 n, .slice Ab nb cb', .int .i64 (tkb : Nat), .bool clb] 37))
  obtain ⟨y0, y1, y2, y3⟩ := four _ _ _ _ _ _ Xb2.out
  go_wp2_with (go_at_call 19; refine Hid.out ?_)
  refine Lib.hid ?_
  clear t0 t1 t2 t3 z0 z1 z2 z3 y0 y1 y2 y3
  obtain ⟨wc, hwc⟩ : ∃ wc, wb.alloc (.cells #[.int .i64 n, .slice Ab nb cb', .int .i64 (tkb : Nat), .bool clb] 37) = wc := ⟨_, rfl⟩
  have bbc := Lib.hid (show Below wb.heap.size wb wc from hwc ▸ (Below.refl _ _).alloc (Nat.le_refl _) _)
  have Yc := Lib.hid (show Blk wc wb.heap.size 37 #[.int .i64 n, .slice Ab nb cb', .int .i64 (tkb : Nat), .bool clb] from hwc ▸ Blk.new wb 37 _)
  have Sc := Lib.hid (Sb.out.below bbc.out)
  have Oc := Lib.hid (Rb.out.ss.below bbc.out)
  have RBxc := Lib.hid (RBxb.out.below bbc.out)
  have RByc := Lib.hid (Rb.out.rb.below bbc.out)
  have Bc := Lib.hid (Bb.out.trans (bbc.out.mono Bb.out.size))
  have C19x := Lib.hid (show Calls Try.prog 19 #[.pointer (some ⟨bs, 0, none⟩), .agg #[.int .i64 n, .slice A9 n9 c9, .int .i64 tk9, .bool cl9]] wc (fun e w' => e = .returned (.bool true) ∧ Below wc.heap.size wc w') from is_any cl9 Sc.out RBxc.out R9.out.tn (by have := N9.out; omega))
  rw [hwc]
  clear hwc
  (with_reducible refine C19x.out.mono ?_); rintro e wd ⟨rfl, bd⟩
  have Yd := Lib.hid (Yc.out.below bd Yc.out.lt)
  have C19y := Lib.hid (show Calls Try.prog 19 #[.pointer (some ⟨cs, 0, none⟩), .agg #[.int .i64 n, .slice Ab nb cb', .int .i64 tkb, .bool clb]] wd (fun e w' => e = .returned (.bool true) ∧ Below wd.heap.size wd w') from is_any clb (Oc.out.below bd) (RByc.out.below bd) Rb.out.tn (by have := Rb.out.nn; have := N5.out; have := HMb.out.1; omega))
  have Bd := Lib.hid (Bc.out.trans (bd.mono Bc.out.size))
  clear bd
  obtain ⟨y0, y1, y2, y3⟩ := four _ _ _ _ _ _ Yd.out
  go_wp2_with (first
    | (go_at_call 19; (with_reducible refine C19y.out.mono ?_); rintro e we ⟨rfl, be⟩; have Be := Lib.hid (Bd.out.trans (be.mono Bd.out.size)); clear be)
    | (go_at_call 8; (with_reducible refine (KN.out _ Be.out).mono ?_); rintro e wf ⟨rfl, bf⟩; have Bf := Lib.hid bf; clear bf))
  go_ret
  exact ⟨rfl, Bf.out⟩
end Go.Proofs.Ythkpmbgclllnjaa
