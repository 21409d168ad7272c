/- The steps of the scanner. -/
import Derived.Test.YtkalllenggmgoaaDoorFl
namespace Go.Proofs.YtkalllenggmgoaaDoor
open Go.RowKit
set_option linter.unusedVariables false
set_option linter.unusedSimpArgs false

variable {B g : Nat} {W W2 : World} {s s' : Sc} {q q' : ScV} {v2 : Value} {x : Int} {ys : List UInt8} {o : Obj}
theorem u8_beq (c d : UInt8) : (((c.toNat : Nat) : Int) == ((d.toNat : Nat) : Int)) = decide (c = d) := by
  rw [Bool.eq_iff_iff, beq_iff_eq, decide_eq_true_eq, u8_iff]
  omega
def ByteF (c : UInt8) (x : Int) : Prop := (named c = namedI x) ∧ (vis c = visI x) ∧ (blank c = blankI x) ∧ (decide (c = 13) = (x == 13)) ∧ (decide (c = 10) = (x == 10)) ∧ (decide (c = 32) = (x == 32)) ∧ decide (c = 58) = (x == 58)
theorem byteF (c : UInt8) : ByteF c (c.toNat : Int) := ⟨rfl, rfl, rfl, (u8_beq c 13).symm, (u8_beq c 10).symm, (u8_beq c 32).symm, (u8_beq c 58).symm⟩
theorem of_dec {p : Prop} [Decidable p] {b : Bool} (h : decide p = b) : (b = true → p) ∧ (b = false → ¬ p) := ⟨fun e => of_decide_eq_true (h.trans e), fun e => of_decide_eq_false (h.trans e)⟩
theorem ScX.same (h : ScW B W g s q) : ScX B g s W W := ⟨⟨q, h⟩, Fp.refl _ _ _⟩
def StepC (f k : Nat) : Prop := ∀ {B g : Nat} {W : World} {s : Sc} {q : ScV}, ScW B W g s q → ScSz s 10000000 → ∀ c : UInt8,
    Calls Tryd.prog f #[.pointer (some ⟨g, 0, none⟩), .int .u8 (c.toNat : Int)] W fun e w' => e = .returned (.int .i64 ((stepF k s c).1 : Int)) ∧ ScX B g (stepF k s c).2 W w'

set_option maxRecDepth 100000 in
set_option maxHeartbeats 1000000 in
theorem inText_any : StepC 60 4 := by
  intro B g W s q h hs c
  obtain ⟨b1, b2, b3, b4, b5, b6, b7⟩ := byteF c
  have CP := Lib.hid (put_any h hs c)
  have CW := Lib.hid (wait_any h hs c)
  have H := Lib.hid h
  have k13 : (((({ data := #[13, 10] } : ByteArray)[0]'(by decide)).toNat : Nat) : Int) = 13 := rfl
  have k10 : (((({ data := #[13, 10] } : ByteArray)[1]'(by decide)).toNat : Nat) : Int) = 10 := rfl
  have e0 : stepF 4 s c = sText s c := rfl
  rw [e0]
  have k6 : W.cell? ⟨g, 6, none⟩ = some (.bool s.loose) := h.blk.cell 6
  obtain ⟨x, hx⟩ : ∃ x : Int, (c.toNat : Int) = x := ⟨_, rfl⟩
  rw [hx] at b2 b3 b4 b6 CP CW ⊢
  obtain ⟨d4, n4⟩ := of_dec b4
  obtain ⟨d6, n6⟩ := of_dec b6
  have HLO : Hid (s.loose = s.loose) := Lib.hid rfl
  clear h hs hx b1 b5 b7 b4 b6
  cases hv : visI x with
  | true =>
    have HR := Lib.hid (show sText s c = (4, { s with ln := s.ln.put c }) by unfold sText; rw [if_pos (b2.trans hv)])
    clear b2 b3 d4 n4 d6 n6
    go_enter Tryd.func60, Tryd.ntmps60
    go_wp2_with (first | (go_at_call 54; (with_reducible refine (vis_any _ _).mono ?_); rintro e w1 ⟨rfl, rfl⟩) | (go_at_call 74; (with_reducible refine CP.out.mono ?_); rintro e w1 ⟨rfl, hx1⟩; have HX1 := Lib.hid hx1; clear hx1))
    go_ret
    rw [HR.out]
    exact ⟨rfl, HX1.out⟩
  | false =>
    have hv2 : ¬ vis c = true := by rw [b2, hv]; decide
    clear b2
    cases hl : s.loose with
    | true =>
      rw [hl] at k6
      cases hb : blankI x with
      | true =>
        have HR := Lib.hid (show sText s c = (4, { s with ln := s.ln.wait c }) by unfold sText; rw [if_neg hv2, if_pos (by rw [hl, b3, hb]; rfl)])
        clear b3 d4 n4 d6 n6 hv2 hl
        go_enter Tryd.func60, Tryd.ntmps60
        go_wp2_with (first | (go_at_call 54; (with_reducible refine (vis_any _ _).mono ?_); rintro e w1 ⟨rfl, rfl⟩) | (go_at_call 72; (with_reducible refine (blank_any _ _).mono ?_); rintro e w1 ⟨rfl, rfl⟩) | (go_at_call 73; (with_reducible refine CW.out.mono ?_); rintro e w1 ⟨rfl, hx1⟩; have HX1 := Lib.hid hx1; clear hx1))
        go_ret
        rw [HR.out]
        exact ⟨rfl, HX1.out⟩
      | false =>
        have h32 : (x == 32) = false := by unfold blankI at hb; rw [eqI, Bool.or_eq_false_iff] at hb; exact hb.1
        have hb2 : ¬ (s.loose && blank c) = true := by rw [b3, hb]; simp
        cases h13 : (x == 13) with
        | true =>
          have HR := Lib.hid (show sText s c = (6, s) by unfold sText; rw [if_neg hv2, if_neg hb2, if_neg (n6 h32), if_pos (d4 h13)])
          clear b3 d4 n4 d6 n6 hv2 hl hb2
          go_enter Tryd.func60, Tryd.ntmps60
          go_wp2_with (first | (go_at_call 54; (with_reducible refine (vis_any _ _).mono ?_); rintro e w1 ⟨rfl, rfl⟩) | (go_at_call 72; (with_reducible refine (blank_any _ _).mono ?_); rintro e w1 ⟨rfl, rfl⟩))
          go_ret
          rw [HR.out]
          exact ⟨rfl, ScX.same H.out⟩
        | false =>
          have HR := Lib.hid (show sText s c = (9, s) by unfold sText; rw [if_neg hv2, if_neg hb2, if_neg (n6 h32), if_neg (n4 h13)])
          clear b3 d4 n4 d6 n6 hv2 hl hb2
          go_enter Tryd.func60, Tryd.ntmps60
          go_wp2_with (first | (go_at_call 54; (with_reducible refine (vis_any _ _).mono ?_); rintro e w1 ⟨rfl, rfl⟩) | (go_at_call 72; (with_reducible refine (blank_any _ _).mono ?_); rintro e w1 ⟨rfl, rfl⟩))
          go_ret
          rw [HR.out]
          exact ⟨rfl, ScX.same H.out⟩
    | false =>
      rw [hl] at k6
      have hb2 : ¬ (s.loose && blank c) = true := by rw [hl]; simp
      cases h32 : (x == 32) with
      | true =>
        have HR := Lib.hid (show sText s c = (5, { s with ln := s.ln.wait c }) by unfold sText; rw [if_neg hv2, if_neg hb2, if_pos (d6 h32)])
        clear b3 d4 n4 d6 n6 hv2 hl hb2
        go_enter Tryd.func60, Tryd.ntmps60
        go_wp2_with (first | (go_at_call 54; (with_reducible refine (vis_any _ _).mono ?_); rintro e w1 ⟨rfl, rfl⟩) | (go_at_call 73; (with_reducible refine CW.out.mono ?_); rintro e w1 ⟨rfl, hx1⟩; have HX1 := Lib.hid hx1; clear hx1))
        go_ret
        rw [HR.out]
        exact ⟨rfl, HX1.out⟩
      | false =>
        cases h13 : (x == 13) with
        | true =>
          have HR := Lib.hid (show sText s c = (6, s) by unfold sText; rw [if_neg hv2, if_neg hb2, if_neg (n6 h32), if_pos (d4 h13)])
          clear b3 d4 n4 d6 n6 hv2 hl hb2
          go_enter Tryd.func60, Tryd.ntmps60
          go_wp2_with (go_at_call 54; (with_reducible refine (vis_any _ _).mono ?_); rintro e w1 ⟨rfl, rfl⟩)
          go_ret
          rw [HR.out]
          exact ⟨rfl, ScX.same H.out⟩
        | false =>
          have HR := Lib.hid (show sText s c = (9, s) by unfold sText; rw [if_neg hv2, if_neg hb2, if_neg (n6 h32), if_neg (n4 h13)])
          clear b3 d4 n4 d6 n6 hv2 hl hb2
          go_enter Tryd.func60, Tryd.ntmps60
          go_wp2_with (go_at_call 54; (with_reducible refine (vis_any _ _).mono ?_); rintro e w1 ⟨rfl, rfl⟩)
          go_ret
          rw [HR.out]
          exact ⟨rfl, ScX.same H.out⟩

set_option maxRecDepth 100000 in
set_option maxHeartbeats 1000000 in
theorem colon_any : StepC 58 2 := by
  intro B g W s q h hs c
  obtain ⟨b1, b2, b3, b4, b5, b6, b7⟩ := byteF c
  have H := Lib.hid h
  have k13 : (((({ data := #[13, 10] } : ByteArray)[0]'(by decide)).toNat : Nat) : Int) = 13 := rfl
  have k10 : (((({ data := #[13, 10] } : ByteArray)[1]'(by decide)).toNat : Nat) : Int) = 10 := rfl
  have e0 : stepF 2 s c = sColon s c := rfl
  rw [e0]
  obtain ⟨x, hx⟩ : ∃ x : Int, (c.toNat : Int) = x := ⟨_, rfl⟩
  rw [hx] at b6 ⊢
  obtain ⟨d6, n6⟩ := of_dec b6
  clear h hs hx b1 b2 b3 b4 b5 b6 b7
  cases h13 : (x == 32) with
  | true =>
    have h13b : (x != 32) = false := by rw [bne, h13]; rfl
    have HR := Lib.hid (show sColon s c = (3, s) by unfold sColon; rw [if_pos (d6 h13)])
    clear d6 n6
    go_enter Tryd.func58, Tryd.ntmps58
    go_wp2_with fail
    go_ret
    rw [HR.out]
    exact ⟨rfl, ScX.same H.out⟩
  | false =>
    have h13b : (x != 32) = true := by rw [bne, h13]; rfl
    have HR := Lib.hid (show sColon s c = (9, s) by unfold sColon; rw [if_neg (n6 h13)])
    clear d6 n6
    go_enter Tryd.func58, Tryd.ntmps58
    go_wp2_with fail
    go_ret
    rw [HR.out]
    exact ⟨rfl, ScX.same H.out⟩

set_option maxRecDepth 100000 in
set_option maxHeartbeats 1000000 in
theorem first_any : StepC 59 3 := by
  intro B g W s q h hs c
  obtain ⟨b1, b2, b3, b4, b5, b6, b7⟩ := byteF c
  have CT := Lib.hid (inText_any h hs c)
  have H := Lib.hid h
  have k13 : (((({ data := #[13, 10] } : ByteArray)[0]'(by decide)).toNat : Nat) : Int) = 13 := rfl
  have k10 : (((({ data := #[13, 10] } : ByteArray)[1]'(by decide)).toNat : Nat) : Int) = 10 := rfl
  have e0 : stepF 3 s c = sFirst s c := rfl
  rw [e0]
  have e1 : stepF 4 s c = sText s c := rfl
  rw [e1] at CT
  obtain ⟨x, hx⟩ : ∃ x : Int, (c.toNat : Int) = x := ⟨_, rfl⟩
  rw [hx] at b6 CT ⊢
  obtain ⟨d6, n6⟩ := of_dec b6
  clear h hs hx b1 b2 b3 b4 b5 b6 b7
  cases h13 : (x == 32) with
  | true =>
    have h13b : (x != 32) = false := by rw [bne, h13]; rfl
    have HR := Lib.hid (show sFirst s c = (9, s) by unfold sFirst; rw [if_pos (d6 h13)])
    clear d6 n6
    go_enter Tryd.func59, Tryd.ntmps59
    go_wp2_with fail
    go_ret
    rw [HR.out]
    exact ⟨rfl, ScX.same H.out⟩
  | false =>
    have h13b : (x != 32) = true := by rw [bne, h13]; rfl
    have HR := Lib.hid (show sFirst s c = sText s c by unfold sFirst; rw [if_neg (n6 h13)])
    clear d6 n6
    go_enter Tryd.func59, Tryd.ntmps59
    go_wp2_with (go_at_call 60; (with_reducible refine CT.out.mono ?_); rintro e w1 ⟨rfl, hx1⟩; have HX1 := Lib.hid hx1; clear hx1)
    go_ret
    rw [HR.out]
    exact ⟨rfl, HX1.out⟩

set_option maxRecDepth 100000 in
set_option maxHeartbeats 1000000 in
theorem space_any : StepC 61 5 := by
  intro B g W s q h hs c
  obtain ⟨b1, b2, b3, b4, b5, b6, b7⟩ := byteF c
  have CT := Lib.hid (inText_any h hs c)
  have H := Lib.hid h
  have k13 : (((({ data := #[13, 10] } : ByteArray)[0]'(by decide)).toNat : Nat) : Int) = 13 := rfl
  have k10 : (((({ data := #[13, 10] } : ByteArray)[1]'(by decide)).toNat : Nat) : Int) = 10 := rfl
  have e0 : stepF 5 s c = sSpace s c := rfl
  rw [e0]
  have e1 : stepF 4 s c = sText s c := rfl
  rw [e1] at CT
  obtain ⟨x, hx⟩ : ∃ x : Int, (c.toNat : Int) = x := ⟨_, rfl⟩
  rw [hx] at b4 CT ⊢
  obtain ⟨d4, n4⟩ := of_dec b4
  clear h hs hx b1 b2 b3 b4 b5 b6 b7
  cases h13 : (x == 13) with
  | true =>
    have h13b : (x != 13) = false := by rw [bne, h13]; rfl
    have HR := Lib.hid (show sSpace s c = (9, s) by unfold sSpace; rw [if_pos (d4 h13)])
    clear d4 n4
    go_enter Tryd.func61, Tryd.ntmps61
    go_wp2_with fail
    go_ret
    rw [HR.out]
    exact ⟨rfl, ScX.same H.out⟩
  | false =>
    have h13b : (x != 13) = true := by rw [bne, h13]; rfl
    have HR := Lib.hid (show sSpace s c = sText s c by unfold sSpace; rw [if_neg (n4 h13)])
    clear d4 n4
    go_enter Tryd.func61, Tryd.ntmps61
    go_wp2_with (go_at_call 60; (with_reducible refine CT.out.mono ?_); rintro e w1 ⟨rfl, hx1⟩; have HX1 := Lib.hid hx1; clear hx1)
    go_ret
    rw [HR.out]
    exact ⟨rfl, HX1.out⟩

set_option maxRecDepth 100000 in
set_option maxHeartbeats 1000000 in
theorem turn_any : StepC 62 6 := by
  intro B g W s q h hs c
  obtain ⟨b1, b2, b3, b4, b5, b6, b7⟩ := byteF c
  have H := Lib.hid h
  have k13 : (((({ data := #[13, 10] } : ByteArray)[0]'(by decide)).toNat : Nat) : Int) = 13 := rfl
  have k10 : (((({ data := #[13, 10] } : ByteArray)[1]'(by decide)).toNat : Nat) : Int) = 10 := rfl
  have e0 : stepF 6 s c = sTurn s c := rfl
  rw [e0]
  obtain ⟨x, hx⟩ : ∃ x : Int, (c.toNat : Int) = x := ⟨_, rfl⟩
  rw [hx] at b5 ⊢
  obtain ⟨d5, n5⟩ := of_dec b5
  clear h hs hx b1 b2 b3 b4 b5 b6 b7
  cases h13 : (x == 10) with
  | true =>
    have h13b : (x != 10) = false := by rw [bne, h13]; rfl
    have HR := Lib.hid (show sTurn s c = (0, s) by unfold sTurn; rw [if_pos (d5 h13)])
    clear d5 n5
    go_enter Tryd.func62, Tryd.ntmps62
    go_wp2_with fail
    go_ret
    rw [HR.out]
    exact ⟨rfl, ScX.same H.out⟩
  | false =>
    have h13b : (x != 10) = true := by rw [bne, h13]; rfl
    have HR := Lib.hid (show sTurn s c = (9, s) by unfold sTurn; rw [if_neg (n5 h13)])
    clear d5 n5
    go_enter Tryd.func62, Tryd.ntmps62
    go_wp2_with fail
    go_ret
    rw [HR.out]
    exact ⟨rfl, ScX.same H.out⟩

set_option maxRecDepth 100000 in
set_option maxHeartbeats 1000000 in
theorem last_any : StepC 63 7 := by
  intro B g W s q h hs c
  obtain ⟨b1, b2, b3, b4, b5, b6, b7⟩ := byteF c
  have H := Lib.hid h
  have k13 : (((({ data := #[13, 10] } : ByteArray)[0]'(by decide)).toNat : Nat) : Int) = 13 := rfl
  have k10 : (((({ data := #[13, 10] } : ByteArray)[1]'(by decide)).toNat : Nat) : Int) = 10 := rfl
  have e0 : stepF 7 s c = sLast s c := rfl
  rw [e0]
  obtain ⟨x, hx⟩ : ∃ x : Int, (c.toNat : Int) = x := ⟨_, rfl⟩
  rw [hx] at b5 ⊢
  obtain ⟨d5, n5⟩ := of_dec b5
  clear h hs hx b1 b2 b3 b4 b5 b6 b7
  cases h13 : (x == 10) with
  | true =>
    have h13b : (x != 10) = false := by rw [bne, h13]; rfl
    have HR := Lib.hid (show sLast s c = (8, s) by unfold sLast; rw [if_pos (d5 h13)])
    clear d5 n5
    go_enter Tryd.func63, Tryd.ntmps63
    go_wp2_with fail
    go_ret
    rw [HR.out]
    exact ⟨rfl, ScX.same H.out⟩
  | false =>
    have h13b : (x != 10) = true := by rw [bne, h13]; rfl
    have HR := Lib.hid (show sLast s c = (9, s) by unfold sLast; rw [if_neg (n5 h13)])
    clear d5 n5
    go_enter Tryd.func63, Tryd.ntmps63
    go_wp2_with fail
    go_ret
    rw [HR.out]
    exact ⟨rfl, ScX.same H.out⟩

set_option maxRecDepth 100000 in
set_option maxHeartbeats 1000000 in
theorem naming_any : StepC 57 1 := by
  intro B g W s q h hs c
  obtain ⟨b1, b2, b3, b4, b5, b6, b7⟩ := byteF c
  have H := Lib.hid h
  have k13 : (((({ data := #[13, 10] } : ByteArray)[0]'(by decide)).toNat : Nat) : Int) = 13 := rfl
  have k10 : (((({ data := #[13, 10] } : ByteArray)[1]'(by decide)).toNat : Nat) : Int) = 10 := rfl
  have e0 : stepF 1 s c = sNaming s c := rfl
  rw [e0]
  obtain ⟨⟨A0, c0, e0⟩, ⟨A1, c1, e1⟩, ⟨A2, c2, e2⟩, A3, c3, e3⟩ := h.forms
  obtain ⟨nv, tv, gv, dv, ds⟩ := q
  obtain ⟨⟨at_, n, t, p, op, sp⟩, lo, pl, dn⟩ := s
  simp only at e0 e1 e2 e3
  subst e0 e1 e2 e3
  have k6 : W.cell? ⟨g, 6, none⟩ = some (.bool lo) := h.blk.cell 6
  have k1 : W.cell? ⟨g, 1, none⟩ = some (.slice A0 n.length c0) := h.blk.cell 1
  have HG : Hid (W.ownsRow B 5 1 (.slice A0 n.length c0) n.length (n.map Go.Proofs.YtkalllenggmgoaaDoor.u8)) := Lib.hid (h.rows.cur 0 (by decide))
  have HB := Lib.hid h.size
  have hu : ([c] : List UInt8).map Go.Proofs.YtkalllenggmgoaaDoor.u8 = [.int .u8 (c.toNat : Int)] := rfl
  have HU := Lib.hid hu
  have HNM : Hid (n.length ≤ 32) := Lib.hid hs.nm
  obtain ⟨x, hx⟩ : ∃ x : Int, (c.toNat : Int) = x := ⟨_, rfl⟩
  rw [hx] at b1 b7 HU ⊢
  obtain ⟨d7, n7⟩ := of_dec b7
  clear h hs hx b2 b3 b4 b5 b6 b7 hu
  cases h58 : (x == 58) with
  | true =>
    cases lo with
    | true =>
      have HR := Lib.hid (show sNaming ⟨⟨at_, n, t, p, op, sp⟩, true, pl, dn⟩ c = (4, ⟨⟨at_, n, t, p, op, sp⟩, true, pl, dn⟩) by unfold sNaming; rw [if_pos (d7 h58)]; rfl)
      clear d7 n7 b1
      go_enter Tryd.func57, Tryd.ntmps57
      go_wp2_with fail
      go_ret
      rw [HR.out]
      exact ⟨rfl, ScX.same H.out⟩
    | false =>
      have HR := Lib.hid (show sNaming ⟨⟨at_, n, t, p, op, sp⟩, false, pl, dn⟩ c = (2, ⟨⟨at_, n, t, p, op, sp⟩, false, pl, dn⟩) by unfold sNaming; rw [if_pos (d7 h58)]; rfl)
      clear d7 n7 b1
      go_enter Tryd.func57, Tryd.ntmps57
      go_wp2_with fail
      go_ret
      rw [HR.out]
      exact ⟨rfl, ScX.same H.out⟩
  | false =>
    cases hn : namedI x with
    | false =>
      have HR := Lib.hid (show sNaming ⟨⟨at_, n, t, p, op, sp⟩, lo, pl, dn⟩ c = (9, ⟨⟨at_, n, t, p, op, sp⟩, lo, pl, dn⟩) by unfold sNaming; rw [if_neg (n7 h58), b1, hn]; rfl)
      clear d7 n7 b1
      cases lo <;>
      · go_enter Tryd.func57, Tryd.ntmps57
        go_wp2_with (go_at_call 32; (with_reducible refine (named_any _ _).mono ?_); rintro e w1 ⟨rfl, rfl⟩)
        go_ret
        rw [HR.out]
        exact ⟨rfl, ScX.same H.out⟩
    | true =>
      cases hl : decide ((n.length : Int) < 32) with
      | false =>
        have hl2 : decide (n.length < 32) = false := by simp at hl ⊢; omega
        have HR := Lib.hid (show sNaming ⟨⟨at_, n, t, p, op, sp⟩, lo, pl, dn⟩ c = (9, ⟨⟨at_, n, t, p, op, sp⟩, lo, pl, dn⟩) by unfold sNaming; rw [if_neg (n7 h58), b1, hn, hl2]; rfl)
        obtain ⟨m, hm⟩ : ∃ m, n.length = m := ⟨_, rfl⟩
        obtain ⟨M, hM⟩ : ∃ M : Int, (m : Int) = M := ⟨_, rfl⟩
        rw [hm] at k1 hl
        rw [hM] at hl
        have hM2 : (m : Int) = M := hM
        clear d7 n7 b1 hl2
        cases lo <;>
        · go_enter Tryd.func57, Tryd.ntmps57
          go_wp2_with (go_at_call 32; (with_reducible refine (named_any _ _).mono ?_); rintro e w1 ⟨rfl, rfl⟩)
          go_ret
          rw [HR.out]
          exact ⟨rfl, ScX.same H.out⟩
      | true =>
        have hl2 : decide (n.length < 32) = true := by simp at hl ⊢; omega
        have HR := Lib.hid (show sNaming ⟨⟨at_, n, t, p, op, sp⟩, lo, pl, dn⟩ c = (1, ⟨⟨at_, n ++ [c], t, p, op, sp⟩, lo, pl, dn⟩) by unfold sNaming; rw [if_neg (n7 h58), b1, hn, hl2]; rfl)
        obtain ⟨m, hm⟩ : ∃ m, n.length = m := ⟨_, rfl⟩
        have HMM := Lib.hid hm
        rw [hm] at k1 HG HNM
        have hl3 : m < 32 := by simpa [hm] using hl2
        clear d7 n7 b1 hl2 hm hl
        cases lo <;>
        · go_enter Tryd.func57, Tryd.ntmps57
          obtain ⟨wo, rfl⟩ : ∃ wo, wo = W := ⟨_, rfl⟩
          go_wp2_with (first | (go_at_call 32; (with_reducible refine (named_any _ _).mono ?_); rintro e w1 ⟨rfl, rfl⟩) | (at_builtin; go_must (refine wpList_app_own (base := B) (n := m) (m := 1) (xs := n.map Go.Proofs.YtkalllenggmgoaaDoor.u8) (news := [.int .u8 x]) rfl (.tmp 34) (.tmp 36) 26 rfl el22 rfl (own_alloc HG.out) rfl (Holds.one _ _ _) (by simp [Value.oneCell']) (by have := HNM.out; unfold maxLen; omega) (by have := HNM.out; omega) (by have := HB.out; simp; omega) ?_; intro v2 w2 hown hg hat; refine Hid.out ?_)))
          obtain ⟨A4, c4, e4, -⟩ := own_form hown
          subst e4
          rw [← HU.out, ← HMM.out] at hown
          obtain ⟨hb2, hx2⟩ := H.out.appName (ys := [c]) hown (Only.app (HMM.out ▸ hg)) (Hat.app (HMM.out ▸ hat))
          have j1 : w2.cell? ⟨g, 1, none⟩ = some (.slice A0 n.length c0) := hb2.cell 1
          have j1f := hb2.frozen 1
          have e1 : Value.slice A4 (n.length + 1) c4 = .slice A4 (m + 1) c4 := by rw [HMM.out]
          have e2 : Value.slice A4 (n.length + ([c] : List UInt8).length) c4 = .slice A4 (m + 1) c4 := by rw [HMM.out]; rfl
          rw [HMM.out] at j1
          first | rw [e1] at hx2 | rw [e2] at hx2
          have HX2 := Lib.hid hx2
          clear hb2 hown hg hat e1 e2 hx2 k1
          refine Lib.hid ?_
          go_wp2_with fail
          go_ret
          rw [HR.out]
          exact ⟨rfl, HX2.out⟩
end Go.Proofs.YtkalllenggmgoaaDoor
