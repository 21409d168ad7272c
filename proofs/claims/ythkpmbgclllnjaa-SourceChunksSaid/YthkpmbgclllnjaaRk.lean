/- The reference: Peek, Take, Until. -/
import Derived.Test.YthkpmbgclllnjaaRf
namespace Go.Proofs.Ythkpmbgclllnjaa
open Go.RowKit
set_option linter.unusedVariables false
set_option linter.unusedSimpArgs false

section
variable {lim : Nat} {A : Option Addr} {n c tk : Nat} {cl : Bool} {l : List UInt8} {w : World}
set_option maxRecDepth 100000 in
theorem rleft_at (lim : Nat) (cl : Bool) (h : RB w A n c l) (ht : tk ≤ n) (W : World) :
    Calls Try.prog 21 #[.agg #[.int .i64 lim, .slice A n c, .int .i64 tk, .bool cl]] W fun e w' => ∃ A' c', e = .returned (.slice A' (n - tk) c') ∧ RB w A' (n - tk) c' (l.drop tk) ∧ Within A A' ∧ Below W.heap.size W w' := by
  obtain ⟨A', c', hs, hr, hw⟩ := slice_from w A n c tk l h ht
  have HR := Lib.hid (And.intro hr hw)
  clear h ht hr hw
  go_enter Try.func21, Try.ntmps21
  go_wp2_with fail
  go_ret
  exact ⟨A', c', rfl, HR.out.1, HR.out.2, (Below.refl _ _).alloc (Nat.le_refl _) _⟩
/-- What Peek of the reference returns. -/
def RPk (w W : World) (lim : Nat) (cl : Bool) (A : Option Addr) (m : List UInt8) (N : Int) (e : Ending) (w' : World) : Prop := ∃ A' k c', e = .returned (.tuple #[.slice A' k c', .int .i64 (peekE lim cl m N)]) ∧ RB w A' k c' (if peekE lim cl m N = 0 then m.take N.toNat else []) ∧ Within A A' ∧ Below W.heap.size W w'
theorem Within.none (A : Option Addr) : Within A none := fun a ha => by cases ha
theorem Within.trans {A B C : Option Addr} (h : Within A B) (k : Within B C) : Within A C := fun a ha => by
  obtain ⟨b, hb, e, s⟩ := k a ha
  obtain ⟨d, hd, e2, s2⟩ := h b hb
  exact ⟨d, hd, e.trans e2, fun x => s (s2 x)⟩
set_option maxRecDepth 100000 in
set_option maxHeartbeats 1000000 in
theorem rpeek_at (h : RB w A n c l) (ht : tk ≤ n) (hn : n ≤ 2000000) (hlim : lim ≤ 1048576) (N : Int) (W : World) :
    Calls Try.prog 44 #[.agg #[.int .i64 lim, .slice A n c, .int .i64 tk, .bool cl], .int .i64 N] W (RPk w W lim cl A (l.drop tk) N) := by
  obtain ⟨d, hd⟩ : ∃ d, n - tk = d := ⟨_, rfl⟩
  have hld : (l.drop tk).length = d := by rw [List.length_drop, h.len, hd]
  have H := Lib.hid h
  obtain ⟨E, hE⟩ : ∃ E, peekE lim cl (l.drop tk) N = E := ⟨_, rfl⟩
  have hbw : Below W.heap.size W (W.alloc (.cells #[.int .i64 lim, .slice A n c, .int .i64 tk, .bool cl] 37)) := (Below.refl _ W).alloc (Nat.le_refl _) _
  have C21 := Lib.hid (rleft_at lim cl h ht (W.alloc (.cells #[.int .i64 lim, .slice A n c, .int .i64 tk, .bool cl] 37)))
  have C48 := Lib.hid (fun W => few_any (lim := lim) (A := A) (n := n) (c := c) (tk := tk) (cl := cl) (w := W))
  rw [hd] at C21
  have q0 : (0 : Int) ≤ lim := by omega
  have q1 : (lim : Int) ≤ 1048576 := by omega
  have q2 : (0 : Int) ≤ d := by omega
  have q3 : (d : Int) ≤ 2000000 := by omega
  have HE := Lib.hid hE
  unfold RPk
  rw [hE]
  unfold peekE at hE
  rw [hld] at hE
  have HLD := Lib.hid hld
  have HT := Lib.hid ht
  have HD := Lib.hid hd
  have HBW := Lib.hid hbw
  clear h hd hld ht hn hlim hbw
  by_cases h1 : N < 0
  · rw [if_pos h1] at hE
    subst hE
    have g1 : decide (N < 0) = true := by simpa using h1
    clear h1
    go_enter Try.func44, Try.ntmps44
    go_wp2_with fail
    refine bodyPost_ret (v := .tuple #[.slice none 0 0, .int .i64 2]) (by simp [results, Try.results44, go_sem]) rfl ⟨none, 0, 0, rfl, RB.nil _, Within.none A, HBW.out⟩
  · rw [if_neg h1] at hE
    have g1 : decide (N < 0) = false := by simpa using h1
    have h1' : 0 ≤ N := by omega
    clear h1
    by_cases h2 : (lim : Int) < N
    · rw [if_pos h2] at hE
      subst hE
      have g2 : decide ((lim : Int) < N) = true := by simpa using h2
      clear h2
      go_enter Try.func44, Try.ntmps44
      go_wp2_with fail
      refine bodyPost_ret (v := .tuple #[.slice none 0 0, .int .i64 3]) (by simp [results, Try.results44, go_sem]) rfl ⟨none, 0, 0, rfl, RB.nil _, Within.none A, HBW.out⟩
    · rw [if_neg h2] at hE
      have g2 : decide ((lim : Int) < N) = false := by simpa using h2
      have h2' : N ≤ lim := by omega
      clear h2
      by_cases h3 : (d : Int) < N
      · rw [if_pos h3] at hE
        have g3 : decide ((d : Int) < N) = true := by simpa using h3
        clear h3
        have hE0 : ¬ E = 0 := by rw [← hE]; split <;> omega
        have HE0 := Lib.hid hE0
        simp only [hE] at C48
        clear hE hE0
        have HB0 := Lib.hid (Blk.new W 37 #[.int .i64 lim, .slice A n c, .int .i64 tk, .bool cl])
        go_enter Try.func44, Try.ntmps44
        go_wp2_with (first
          | (go_at_call 21; (with_reducible refine C21.out.mono ?_); rintro e w1 ⟨A1, c1, rfl, -, -, b1⟩; have HB1 := Lib.hid (HBW.out.trans (b1.mono HBW.out.size)); have e0 := (HB0.out.below b1 HB0.out.lt).cell 0; have e1 := (HB0.out.below b1 HB0.out.lt).cell 1; have e2 := (HB0.out.below b1 HB0.out.lt).cell 2; have e3 := (HB0.out.below b1 HB0.out.lt).cell 3; simp at e0 e1 e2 e3; clear b1)
          | (go_at_call 48; (with_reducible refine (C48.out _).mono ?_); rintro e w2 ⟨rfl, b2⟩; have HB2 := Lib.hid (HB1.out.trans (b2.mono HB1.out.size)); clear b2))
        refine bodyPost_ret (v := .tuple #[.slice none 0 0, .int .i64 E]) (by simp [results, Try.results44, go_sem]) rfl ⟨none, 0, 0, rfl, ?_, Within.none A, HB2.out⟩
        exact RB.nil _
      · rw [if_neg h3] at hE
        subst hE
        have g3 : decide ((d : Int) < N) = false := by simpa using h3
        obtain ⟨k, rfl⟩ : ∃ k : Nat, N = k := ⟨N.toNat, by omega⟩
        have hk : k ≤ d := by omega
        have HK := Lib.hid hk
        have g2n : decide (lim < k) = false := by simp; omega
        have g3n : decide (d < k) = false := by simp; omega
        clear h3 hk
        have HB0 := Lib.hid (Blk.new W 37 #[.int .i64 lim, .slice A n c, .int .i64 tk, .bool cl])
        go_enter Try.func44, Try.ntmps44
        go_wp2_with (first
          | (go_at_call 21; (with_reducible refine C21.out.mono ?_); rintro e w1 ⟨A1, c1, rfl, -, -, b1⟩; have HB1 := Lib.hid (HBW.out.trans (b1.mono HBW.out.size)); have e0 := (HB0.out.below b1 HB0.out.lt).cell 0; have e1 := (HB0.out.below b1 HB0.out.lt).cell 1; have e2 := (HB0.out.below b1 HB0.out.lt).cell 2; have e3 := (HB0.out.below b1 HB0.out.lt).cell 3; simp at e0 e1 e2 e3; have C := Lib.hid (rleft_at lim cl H.out HT.out w1); rw [HD.out] at C; clear b1 C21; refine Hid.out ?_)
          )
        refine Lib.hid ?_
        go_wp2_with (first
          | (go_at_call 21; (with_reducible refine C.out.mono ?_); rintro e w2 ⟨A2, c2, rfl, r2, i2, b2⟩; have HB2 := Lib.hid (HB1.out.trans (b2.mono HB1.out.size)); obtain ⟨A3, c3, hs3, hr3, hi3⟩ := slice_to w A2 d c2 k (l.drop tk) r2 HK.out; have HR := Lib.hid (And.intro hr3 (i2.trans hi3)); clear r2 i2 hr3 hi3 b2))
        refine bodyPost_ret (v := .tuple #[.slice A3 k c3, .int .i64 0]) (by simp [results, Try.results44, go_sem]) rfl ⟨A3, k, c3, rfl, ?_, HR.out.2, HB2.out⟩
        exact HR.out.1

/-- What Take of the reference returns. -/
def RTk (w : World) (lim tk : Nat) (cl : Bool) (A : Option Addr) (n c : Nat) (m : List UInt8) (E : Int) (tk' : Nat) (b : List UInt8) (e : Ending) (w' : World) : Prop := ∃ A' k c', e = .returned (.tuple #[.agg #[.int .i64 lim, .slice A n c, .int .i64 tk', .bool cl], .slice A' k c', .int .i64 E]) ∧ RB w A' k c' b ∧ Within A A' ∧ Below w.heap.size w w'
theorem four (W : World) (g : Nat) (p q r t : Value) (h : Blk W g 37 #[p, q, r, t]) : W.cell? ⟨g, 0, none⟩ = some p ∧ W.cell? ⟨g, 1, none⟩ = some q ∧ W.cell? ⟨g, 2, none⟩ = some r ∧ W.cell? ⟨g, 3, none⟩ = some t := ⟨h.cell 0, h.cell 1, h.cell 2, h.cell 3⟩
theorem fourz (W : World) (g : Nat) (p q r t : Value) (h : Blk W g 37 #[p, q, r, t]) : W.frozen? ⟨g, 0, none⟩ = false ∧ W.frozen? ⟨g, 1, none⟩ = false ∧ W.frozen? ⟨g, 2, none⟩ = false ∧ W.frozen? ⟨g, 3, none⟩ = false := ⟨h.frozen 0, h.frozen 1, h.frozen 2, h.frozen 3⟩
set_option maxRecDepth 100000 in
set_option maxHeartbeats 1000000 in
theorem rtake_any (h : RB w A n c l) (ht : tk ≤ n) (hn : n ≤ 2000000) (hlim : lim ≤ 1048576) (N : Int) :
    Calls Try.prog 45 #[.agg #[.int .i64 lim, .slice A n c, .int .i64 tk, .bool cl], .int .i64 N] w (RTk w lim tk cl A n c (l.drop tk) (peekE lim cl (l.drop tk) N) (if peekE lim cl (l.drop tk) N = 0 then tk + N.toNat else tk) (if peekE lim cl (l.drop tk) N = 0 then (l.drop tk).take N.toNat else [])) := by
  obtain ⟨w0, hW0⟩ : ∃ w0, (w.alloc (.cells #[.int .i64 lim, .slice A n c, .int .i64 tk, .bool cl] 37)).alloc (.cells #[.int .i64 0, .slice none 0 0, .int .i64 0, .bool false] 37) = w0 := ⟨_, rfl⟩
  have hbw : Below w.heap.size w w0 := hW0 ▸ ((Below.refl _ w).alloc (Nat.le_refl _) _).alloc (by simp) _
  have k1 : Blk w0 w.heap.size 37 #[.int .i64 lim, .slice A n c, .int .i64 tk, .bool cl] := hW0 ▸ (Blk.new w 37 _).alloc _
  have k2 : Blk w0 (w.heap.size + 1) 37 #[.int .i64 0, .slice none 0 0, .int .i64 0, .bool false] := by have := Blk.new (w.alloc (.cells #[.int .i64 lim, .slice A n c, .int .i64 tk, .bool cl] 37)) 37 #[.int .i64 0, .slice none 0 0, .int .i64 0, .bool false]; rw [World.size_alloc, hW0] at this; exact this
  have C := Lib.hid (rpeek_at (cl := cl) h ht hn hlim N w0)
  have q0 : (0 : Int) ≤ tk := by omega
  have q1 : (tk : Int) ≤ 2000000 := by omega
  have H := Lib.hid h
  have HBW := Lib.hid hbw
  have HK1 := Lib.hid k1
  have HK2 := Lib.hid k2
  have HW0 := Lib.hid hW0
  by_cases hE : peekE lim cl (l.drop tk) N = 0
  · rw [if_pos hE, if_pos hE]
    unfold RPk at C
    rw [if_pos hE] at C
    rw [hE] at C ⊢
    obtain ⟨k, rfl, hkl, -⟩ := peekE_ok hE
    have hk2 : (k : Int) ≤ 2000000 := by rw [List.length_drop, h.len] at hkl; omega
    have hk0 : (0 : Int) ≤ k := by omega
    clear hE hkl h hbw k1 k2 hW0 ht hn hlim
    go_enter Try.func45, Try.ntmps45
    go_wp2_with (go_at_call 44; rw [HW0.out]; (with_reducible refine C.out.mono ?_); rintro e w1 ⟨A1, k1, c1, rfl, r1, i1, b1⟩; obtain ⟨a0, a1, a2, a3⟩ := four _ _ _ _ _ _ (HK1.out.below b1 HK1.out.lt); obtain ⟨z0, z1, z2, z3⟩ := fourz _ _ _ _ _ _ (HK1.out.below b1 HK1.out.lt); obtain ⟨y0, y1, y2, y3⟩ := fourz _ _ _ _ _ _ (HK2.out.below b1 HK2.out.lt); obtain ⟨x0, x1, x2, x3⟩ := four _ _ _ _ _ _ (HK2.out.below b1 HK2.out.lt); have HB1 := Lib.hid b1; have HR := Lib.hid (And.intro r1 i1); clear r1 i1 b1)
    obtain ⟨w5, hw5⟩ : ∃ w5, w1.setCell ⟨w.heap.size, 2, none⟩ (.int .i64 ((tk : Int) + k)) = w5 := ⟨_, rfl⟩
    have K2b : Blk w5 (w.heap.size + 1) 37 #[.int .i64 0, .slice none 0 0, .int .i64 0, .bool false] := hw5 ▸ (HK2.out.below HB1.out HK2.out.lt).far (by simp) _
    have hb5 : Below w.heap.size w w5 := hw5 ▸ Below.setCell (HBW.out.trans (HB1.out.mono HBW.out.size)) (Nat.le_refl _) _
    rw [hw5]
    have hbf := below4 hb5 (g := w.heap.size + 1) (by omega) (.int .i64 lim) (.slice A n c) (.int .i64 ((tk : Int) + k)) (.bool cl)
    have hki : ((tk + k : Nat) : Int) = (tk : Int) + k := by omega
    refine bodyPost_ret (v := .tuple #[.agg #[.int .i64 lim, .slice A n c, .int .i64 ((tk : Int) + k), .bool cl], .slice A1 k1 c1, .int .i64 0]) (by exact res3 (fn := Try.f45) (p := 4) (u := 5) (u2 := 6) rfl _ _ (w.heap.size + 1) _ rfl (set4 K2b _ _ _ _) rfl) rfl ⟨A1, k1, c1, by rw [Int.toNat_natCast, hki], HR.out.1, HR.out.2, hbf⟩
  · rw [if_neg hE, if_neg hE]
    unfold RPk at C
    rw [if_neg hE] at C
    obtain ⟨E, hEE⟩ : ∃ E, peekE lim cl (l.drop tk) N = E := ⟨_, rfl⟩
    rw [hEE] at C hE ⊢
    have g1 : (E == 0) = false := by simpa using hE
    clear hE hEE h hbw k1 k2 hW0 ht hn hlim
    go_enter Try.func45, Try.ntmps45
    go_wp2_with (go_at_call 44; rw [HW0.out]; (with_reducible refine C.out.mono ?_); rintro e w1 ⟨A1, k1, c1, rfl, r1, i1, b1⟩; obtain ⟨a0, a1, a2, a3⟩ := four _ _ _ _ _ _ (HK1.out.below b1 HK1.out.lt); obtain ⟨z0, z1, z2, z3⟩ := fourz _ _ _ _ _ _ (HK1.out.below b1 HK1.out.lt); obtain ⟨y0, y1, y2, y3⟩ := fourz _ _ _ _ _ _ (HK2.out.below b1 HK2.out.lt); obtain ⟨x0, x1, x2, x3⟩ := four _ _ _ _ _ _ (HK2.out.below b1 HK2.out.lt); have HB1 := Lib.hid b1; have HR := Lib.hid (And.intro r1 i1); clear r1 i1 b1)
    have hbf := below4 (HBW.out.trans (HB1.out.mono HBW.out.size)) (g := w.heap.size + 1) (by omega) (.int .i64 lim) (.slice A n c) (.int .i64 tk) (.bool cl)
    refine bodyPost_ret (v := .tuple #[.agg #[.int .i64 lim, .slice A n c, .int .i64 tk, .bool cl], .slice A1 k1 c1, .int .i64 E]) (by exact res3 (fn := Try.f45) (p := 4) (u := 5) (u2 := 6) rfl _ _ (w.heap.size + 1) _ rfl (set4 (HK2.out.below HB1.out HK2.out.lt) _ _ _ _) rfl) rfl ⟨A1, k1, c1, rfl, HR.out.1, HR.out.2, hbf⟩
end
end Go.Proofs.Ythkpmbgclllnjaa
