/- Feed$1: a byte. -/
import Derived.Test.YtibkhjpjneoabaaFk
namespace Go.Proofs.Ytibkhjpjneoabaa
open Go.RowKit
set_option linter.unusedVariables false
set_option linter.unusedSimpArgs false

/-- The state within the call. -/
structure FdS (w W : World) (B r : Nat) (k m c : Int) (v0 v : Value) (s : St) (br bf bx : Nat) (fn : Nat) : Prop where
  rd : RdS W B r k m c v s
  hx : Blk W bx 44 #[.int .i64 0, .slice none 0 0, .int .i64 0]
  hg : Blk W br 37 #[.pointer (some ⟨r, 0, none⟩)]
  hf : Blk W bf 67 #[.func (.func fn) #[] #[]]
  only : Only (SFo r v0) w W
  hat : Hat v0 v w
  bxs : w.heap.size ≤ bx
section
variable {w W W2 : World} {B r br bf bx fn : Nat} {k m c : Int} {v0 v v2 : Value} {s : St}
theorem FdS.apart (h : FdS w W B r k m c v0 v s br bf bx fn) : ¬ SFo r v bx := fun e => by
  rcases e with e | e
  · exact (h.rd.blk.ne h.hx (by decide)) e.symm
  · exact own_ne h.rd.own h.hx (by decide) e
theorem FdS.below (h : FdS w W B r k m c v0 v s br bf bx fn) (hb : Below W.heap.size W W2) : FdS w W2 B r k m c v0 v s br bf bx fn :=
  ⟨h.rd.below hb, h.hx.below hb h.hx.lt, h.hg.below hb h.hg.lt, h.hf.below hb h.hf.lt, h.only.below hb, h.hat, h.bxs⟩
theorem FdS.drew (h : FdS w W B r k m c v0 v s br bf bx fn) : FdS w W.drew B r k m c v0 v s br bf bx fn := h.below (below_drew (Below.refl _ W))
theorem FdS.set_ (h : FdS w W B r k m c v0 v s br bf bx fn) (i : Nat) (u : Value) {s' : St} (hr : RdS (W.setCell ⟨r, i, none⟩ u) B r k m c v s') : FdS w (W.setCell ⟨r, i, none⟩ u) B r k m c v0 v s' br bf bx fn :=
  ⟨hr, h.hx.far (by simpa using fun e => (h.rd.blk.ne h.hx (by decide)) e.symm) _, h.hg.far (by simpa using fun e => (h.rd.blk.ne h.hg (by decide)) e.symm) _, h.hf.far (by simpa using fun e => (h.rd.blk.ne h.hf (by decide)) e.symm) _, h.only.set (fun _ => .inl rfl) i u, h.hat, h.bxs⟩
theorem RdS.set_off (h : RdS W B r k m c v s) (z : Nat) : RdS (W.setCell ⟨r, 4, none⟩ (.int .i64 (z : Int))) B r k m c v { s with off := z } := by
  have hb := h.blk.set_ 4 (.int .i64 (z : Int))
  simp only [List.setIfInBounds_toArray, List.set_cons_zero, List.set_cons_succ] at hb
  exact ⟨hb, own_setCell h.own h.ne _, by simpa using h.base, h.nil⟩
theorem RdS.set_at (h : RdS W B r k m c v s) (z : Nat) : RdS (W.setCell ⟨r, 5, none⟩ (.int .i64 (z : Int))) B r k m c v { s with at_ := z } := by
  have hb := h.blk.set_ 5 (.int .i64 (z : Int))
  simp only [List.setIfInBounds_toArray, List.set_cons_zero, List.set_cons_succ] at hb
  exact ⟨hb, own_setCell h.own h.ne _, by simpa using h.base, h.nil⟩
theorem RdS.set_begun (h : RdS W B r k m c v s) (z : Bool) : RdS (W.setCell ⟨r, 7, none⟩ (.bool z)) B r k m c v { s with begun := z } := by
  have hb := h.blk.set_ 7 (.bool z)
  simp only [List.setIfInBounds_toArray, List.set_cons_zero, List.set_cons_succ] at hb
  exact ⟨hb, own_setCell h.own h.ne _, by simpa using h.base, h.nil⟩
end
def FdR (br r : Nat) (o : Int) (W : World) : Prop := W.cell? ⟨br, 0, none⟩ = some (.pointer (some ⟨r, 0, none⟩)) ∧ W.cell? ⟨r, 4, none⟩ = some (.int .i64 o)
def fnOf (k : Int) : Nat := if k = 1 then 33 else 34

set_option maxRecDepth 100000 in
set_option maxHeartbeats 8000000 in
theorem step_any (B r br bf : Nat) (k m c : Int) (v : Value) (s : St) (x : UInt8) (w : World) (hF : OkF k m c) (hs : RdS w B r k m c v s) (hl : s.held.length ≤ 40000) (hg : Blk w br 37 #[.pointer (some ⟨r, 0, none⟩)]) (hf : Blk w bf 67 #[.func (.func (fnOf k)) #[] #[]]) (ho : s.off ≤ 1000000) :
    Calls Try.prog 36 #[Go.Proofs.Ytibkhjpjneoabaa.u8 x, .pointer (some ⟨br, 0, none⟩), .pointer (some ⟨bf, 0, none⟩)] w (Stepped w B r k m c v (stepS k m c s x)) := by
  obtain ⟨xi, hxi⟩ : ∃ xi : Int, (x.toNat : Int) = xi := ⟨_, rfl⟩
  obtain ⟨W0, hW0⟩ : ∃ W0, w.alloc (.cells #[.int .i64 0, .slice none 0 0, .int .i64 0] 44) = W0 := ⟨_, rfl⟩
  have hb0 : Below w.heap.size w W0 := hW0 ▸ (Below.refl _ w).alloc (Nat.le_refl _) _
  obtain ⟨bx, hbx⟩ : ∃ bx, w.heap.size = bx := ⟨_, rfl⟩
  have kx : Blk W0 bx 44 #[.int .i64 0, .slice none 0 0, .int .i64 0] := hbx ▸ hW0 ▸ Blk.new w 44 _
  have HD0 := Lib.hid (show FdS w W0 B r k m c v v s br bf bx (fnOf k) from ⟨hs.below hb0, kx, hg.below hb0 hg.lt, hf.below hb0 hf.lt, Only.of_below hb0, Hat.refl _ _, by omega⟩)
  have HW0 := Lib.hid hW0
  have HF := Lib.hid hF
  have HL := Lib.hid hl
  have HXI := Lib.hid hxi
  have HBX := Lib.hid hbx
  show Calls Try.prog 36 #[.int .u8 (x.toNat : Int), _, _] w _
  rw [hxi]
  have kg : W0.cell? ⟨br, 0, none⟩ = some (.pointer (some ⟨r, 0, none⟩)) := HD0.out.hg.cell 0
  have k4 : W0.cell? ⟨r, 4, none⟩ = some (.int .i64 (s.off : Int)) := HD0.out.rd.blk.cell 4
  have z4 := HD0.out.rd.blk.frozen 4
  have ho1 : (s.off : Int) ≤ 1000000 := by omega
  clear hs hF hl hg hf hb0 hW0 kx hxi
  go_enter Try.func36, Try.ntmps36
  go_upto_region 1 with fail
  rw [HW0.out]
  clear HW0 hbx
  go_upto_region 2 with fail
  obtain ⟨w1, hw1⟩ : ∃ w1, W0.setCell ⟨r, 4, none⟩ (.int .i64 ((s.off : Int) + 1)) = w1 := ⟨_, rfl⟩
  have HD := Lib.hid (show FdS w w1 B r k m c v v { s with off := s.off + 1 } br bf bx (fnOf k) from hw1 ▸ HD0.out.set_ 4 _ (HD0.out.rd.set_off (s.off + 1)))
  rw [hw1]
  clear hw1 kg k4 z4
  have kg : w1.cell? ⟨br, 0, none⟩ = some (.pointer (some ⟨r, 0, none⟩)) := HD.out.hg.cell 0
  have k3 : w1.cell? ⟨r, 3, none⟩ = some (.int .i64 s.st) := HD.out.rd.blk.cell 3
  have z3 := HD.out.rd.blk.frozen 3
  by_cases h1 : s.st = 1
  · rw [h1] at k3
    by_cases h6 : x = 126
    · subst h6
      obtain rfl : xi = 126 := by rw [← HXI.out]; rfl
      have HP := Lib.hid (show stepS k m c s 126 = ({ s with off := s.off + 1, st := 0 }, none) by unfold stepS; rw [if_pos h1]; rfl)
      clear h1
      go_upto_region 7 with fail
      obtain ⟨w2, hw2⟩ : ∃ w2, w1.setCell ⟨r, 3, none⟩ (.int .i64 0) = w2 := ⟨_, rfl⟩
      have HD := Lib.hid (show FdS w w2 B r k m c v v { s with off := s.off + 1, st := 0 } br bf bx (fnOf k) from hw2 ▸ HD.out.set_ 3 _ (HD.out.rd.set_st 0))
      rw [hw2]
      clear hw2 kg k3 z3
      obtain ⟨g0, g1, g2⟩ : w2.cell? ⟨bx, 0, none⟩ = some (.int .i64 0) ∧ w2.cell? ⟨bx, 1, none⟩ = some (.slice none 0 0) ∧ w2.cell? ⟨bx, 2, none⟩ = some (.int .i64 0) := ⟨HD.out.hx.cell 0, HD.out.hx.cell 1, HD.out.hx.cell 2⟩
      have y0 := HD.out.hx.frozen 0
      have y1 := HD.out.hx.frozen 1
      have y2 := HD.out.hx.frozen 2
      go_wp2_with fail
      refine bodyPost_ret (v := .tuple #[.agg #[.int .i64 0, .slice none 0 0, .int .i64 0], .bool false]) (fr_res rfl rfl rfl (blk_set3 HD.out.hx)) rfl ?_
      rw [HP.out]
      exact ⟨rfl, _, HD.out.rd.box HD.out.hx, only_set3 HD.out.only HD.out.bxs, HD.out.hat⟩
    · have HP := Lib.hid (show stepS k m c s x = ({ s with off := s.off + 1 }, none) by unfold stepS; rw [if_pos h1, if_neg h6, ← h1])
      have q6 : (xi == 126) = false := by
        rw [← HXI.out]
        simp
        intro e
        exact h6 (UInt8.toNat_inj.1 (by show x.toNat = 126; omega))
      clear h1 h6
      obtain ⟨g0, g1, g2⟩ : w1.cell? ⟨bx, 0, none⟩ = some (.int .i64 0) ∧ w1.cell? ⟨bx, 1, none⟩ = some (.slice none 0 0) ∧ w1.cell? ⟨bx, 2, none⟩ = some (.int .i64 0) := ⟨HD.out.hx.cell 0, HD.out.hx.cell 1, HD.out.hx.cell 2⟩
      have y0 := HD.out.hx.frozen 0
      have y1 := HD.out.hx.frozen 1
      have y2 := HD.out.hx.frozen 2
      go_wp2_with fail
      refine bodyPost_ret (v := .tuple #[.agg #[.int .i64 0, .slice none 0 0, .int .i64 0], .bool false]) (fr_res rfl rfl rfl (blk_set3 HD.out.hx)) rfl ?_
      rw [HP.out]
      exact ⟨rfl, _, HD.out.rd.box HD.out.hx, only_set3 HD.out.only HD.out.bxs, HD.out.hat⟩
  · have q1 : (s.st == 1) = false := by simpa using h1
    by_cases h2 : s.st = 2
    · rw [h2] at k3
      have HP := Lib.hid (show stepS k m c s x = ({ s with off := s.off + 1 }, none) by unfold stepS; rw [if_neg h1, if_pos h2])
      clear h1 h2 q1
      obtain ⟨g0, g1, g2⟩ : w1.cell? ⟨bx, 0, none⟩ = some (.int .i64 0) ∧ w1.cell? ⟨bx, 1, none⟩ = some (.slice none 0 0) ∧ w1.cell? ⟨bx, 2, none⟩ = some (.int .i64 0) := ⟨HD.out.hx.cell 0, HD.out.hx.cell 1, HD.out.hx.cell 2⟩
      have y0 := HD.out.hx.frozen 0
      have y1 := HD.out.hx.frozen 1
      have y2 := HD.out.hx.frozen 2
      go_wp2_with fail
      refine bodyPost_ret (v := .tuple #[.agg #[.int .i64 0, .slice none 0 0, .int .i64 0], .bool false]) (fr_res rfl rfl rfl (blk_set3 HD.out.hx)) rfl ?_
      rw [HP.out]
      exact ⟨rfl, _, HD.out.rd.box HD.out.hx, only_set3 HD.out.only HD.out.bxs, HD.out.hat⟩
    · have q2 : (s.st == 2) = false := by simpa using h2
      have k7 : w1.cell? ⟨r, 7, none⟩ = some (.bool s.begun) := HD.out.rd.blk.cell 7
      have z7 := HD.out.rd.blk.frozen 7
      have k0 : w1.cell? ⟨r, 0, none⟩ = some (.int .i64 k) := HD.out.rd.blk.cell 0
      by_cases hbg : s.begun = true
      · rw [hbg] at k7
        have HP := Lib.hid (show stepS k m c s x = readB k m c { s with off := s.off + 1 } x by unfold stepS; rw [if_neg h1, if_neg h2, if_pos hbg])
        clear h1 h2 hbg ho1
        rcases HF.out.k with rfl | rfl
        · have c3 := prefix_any B r 1 m c v { s with off := s.off + 1 } x w1 HF.out HD.out.rd HL.out
          rw [show Go.Proofs.Ytibkhjpjneoabaa.u8 x = .int .u8 xi from by rw [← HXI.out]; rfl] at c3
          have kg : w1.cell? ⟨br, 0, none⟩ = some (.pointer (some ⟨r, 0, none⟩)) := HD.out.hg.cell 0
          have kf : w1.cell? ⟨bf, 0, none⟩ = some (.func (.func 33) #[] #[]) := HD.out.hf.cell 0
          generalize hpp : preS m c { s with off := s.off + 1 } x = pp at *
          have HPP := Lib.hid hpp
          have C3 := Lib.hid c3
          clear hpp c3
          obtain ⟨s8, o8⟩ := pp
          cases o8 with
          | none =>
            have C4 := Lib.hid (C3.out.mono fun e w' h => (show e = .returned (.tuple #[.agg #[.int .i64 0, .slice none 0 0, .int .i64 0], .bool false]) ∧ ∃ v', StepD (w1) w' B r 1 m c v v' s8 from h))
            clear C3
            go_wp2_with (go_at_call 33; (with_reducible refine C4.out.mono ?_); rintro e w8 ⟨rfl, v8, hd8⟩; refine Hid.out ?_)
            refine Lib.hid ?_
            have HD8 := Lib.hid hd8
            have HX8 := Lib.hid (HD.out.hx.only hd8.only fun e => HD.out.apart e)
            clear hd8
            obtain ⟨g0, g1, g2⟩ : w8.cell? ⟨bx, 0, none⟩ = some (.int .i64 0) ∧ w8.cell? ⟨bx, 1, none⟩ = some (.slice none 0 0) ∧ w8.cell? ⟨bx, 2, none⟩ = some (.int .i64 0) := ⟨HX8.out.cell 0, HX8.out.cell 1, HX8.out.cell 2⟩
            have y0 := HX8.out.frozen 0
            have y1 := HX8.out.frozen 1
            have y2 := HX8.out.frozen 2
            go_wp2_with fail
            refine bodyPost_ret (v := .tuple #[.agg #[.int .i64 0, .slice none 0 0, .int .i64 0], .bool false]) (fr_res rfl rfl rfl (blk_set3 HX8.out)) rfl ?_
            rw [HP.out]
            unfold readB
            rw [if_pos rfl, HPP.out]
            exact ⟨rfl, v8, HD8.out.rd.box HX8.out, only_set3 (HD.out.only.trans HD8.out.only HD.out.hat.sfo) HD.out.bxs, HD.out.hat.trans HD8.out.hat HD.out.only.size⟩
          | some f8 =>
            have C4 := Lib.hid (C3.out.mono fun e w' h => (show (∃ A n cp, e = .returned (.tuple #[.agg #[.int .i64 (f8.at_ : Int), .slice A n cp, .int .i64 f8.code], .bool true]) ∧ w'.ownsRow (w1).heap.size 5 1 (.slice A n cp) n (f8.bytes.map Go.Proofs.Ytibkhjpjneoabaa.u8)) ∧ ∃ v', StepD (w1) w' B r 1 m c v v' s8 from h))
            clear C3
            go_wp2_with (go_at_call 33; (with_reducible refine C4.out.mono ?_); rintro e w8 ⟨⟨A8, n8, c8, rfl, ho8⟩, v8, hd8⟩; refine Hid.out ?_)
            refine Lib.hid ?_
            have HD8 := Lib.hid hd8
            have HX8 := Lib.hid (HD.out.hx.only hd8.only fun e => HD.out.apart e)
            have HO8 := Lib.hid ho8
            clear ho8 hd8
            obtain ⟨g0, g1, g2⟩ : w8.cell? ⟨bx, 0, none⟩ = some (.int .i64 0) ∧ w8.cell? ⟨bx, 1, none⟩ = some (.slice none 0 0) ∧ w8.cell? ⟨bx, 2, none⟩ = some (.int .i64 0) := ⟨HX8.out.cell 0, HX8.out.cell 1, HX8.out.cell 2⟩
            have y0 := HX8.out.frozen 0
            have y1 := HX8.out.frozen 1
            have y2 := HX8.out.frozen 2
            go_wp2_with fail
            refine bodyPost_ret (v := .tuple #[.agg #[.int .i64 (f8.at_ : Int), .slice A8 n8 c8, .int .i64 f8.code], .bool true]) (fr_res rfl rfl rfl (blk_set3 HX8.out)) rfl ?_
            have hne := own_ne HO8.out HX8.out (by decide)
            rw [HP.out]
            unfold readB
            rw [if_pos rfl, HPP.out]
            exact ⟨⟨A8, n8, c8, rfl, own_base (own_setCell (own_setCell (own_setCell HO8.out hne _) hne _) hne _) HD.out.only.size⟩, v8, HD8.out.rd.box HX8.out, only_set3 (HD.out.only.trans HD8.out.only HD.out.hat.sfo) HD.out.bxs, HD.out.hat.trans HD8.out.hat HD.out.only.size⟩
        · have c3 := delimited_any B r 2 m c v { s with off := s.off + 1 } x w1 HF.out HD.out.rd HL.out
          rw [show Go.Proofs.Ytibkhjpjneoabaa.u8 x = .int .u8 xi from by rw [← HXI.out]; rfl] at c3
          have kg : w1.cell? ⟨br, 0, none⟩ = some (.pointer (some ⟨r, 0, none⟩)) := HD.out.hg.cell 0
          have kf : w1.cell? ⟨bf, 0, none⟩ = some (.func (.func 34) #[] #[]) := HD.out.hf.cell 0
          generalize hpp : delS m c { s with off := s.off + 1 } x = pp at *
          have HPP := Lib.hid hpp
          have C3 := Lib.hid c3
          clear hpp c3
          obtain ⟨s8, o8⟩ := pp
          cases o8 with
          | none =>
            have C4 := Lib.hid (C3.out.mono fun e w' h => (show e = .returned (.tuple #[.agg #[.int .i64 0, .slice none 0 0, .int .i64 0], .bool false]) ∧ ∃ v', StepD (w1) w' B r 2 m c v v' s8 from h))
            clear C3
            go_wp2_with (go_at_call 34; (with_reducible refine C4.out.mono ?_); rintro e w8 ⟨rfl, v8, hd8⟩; refine Hid.out ?_)
            refine Lib.hid ?_
            have HD8 := Lib.hid hd8
            have HX8 := Lib.hid (HD.out.hx.only hd8.only fun e => HD.out.apart e)
            clear hd8
            obtain ⟨g0, g1, g2⟩ : w8.cell? ⟨bx, 0, none⟩ = some (.int .i64 0) ∧ w8.cell? ⟨bx, 1, none⟩ = some (.slice none 0 0) ∧ w8.cell? ⟨bx, 2, none⟩ = some (.int .i64 0) := ⟨HX8.out.cell 0, HX8.out.cell 1, HX8.out.cell 2⟩
            have y0 := HX8.out.frozen 0
            have y1 := HX8.out.frozen 1
            have y2 := HX8.out.frozen 2
            go_wp2_with fail
            refine bodyPost_ret (v := .tuple #[.agg #[.int .i64 0, .slice none 0 0, .int .i64 0], .bool false]) (fr_res rfl rfl rfl (blk_set3 HX8.out)) rfl ?_
            rw [HP.out]
            unfold readB
            rw [if_neg (by decide), HPP.out]
            exact ⟨rfl, v8, HD8.out.rd.box HX8.out, only_set3 (HD.out.only.trans HD8.out.only HD.out.hat.sfo) HD.out.bxs, HD.out.hat.trans HD8.out.hat HD.out.only.size⟩
          | some f8 =>
            have C4 := Lib.hid (C3.out.mono fun e w' h => (show (∃ A n cp, e = .returned (.tuple #[.agg #[.int .i64 (f8.at_ : Int), .slice A n cp, .int .i64 f8.code], .bool true]) ∧ w'.ownsRow (w1).heap.size 5 1 (.slice A n cp) n (f8.bytes.map Go.Proofs.Ytibkhjpjneoabaa.u8)) ∧ ∃ v', StepD (w1) w' B r 2 m c v v' s8 from h))
            clear C3
            go_wp2_with (go_at_call 34; (with_reducible refine C4.out.mono ?_); rintro e w8 ⟨⟨A8, n8, c8, rfl, ho8⟩, v8, hd8⟩; refine Hid.out ?_)
            refine Lib.hid ?_
            have HD8 := Lib.hid hd8
            have HX8 := Lib.hid (HD.out.hx.only hd8.only fun e => HD.out.apart e)
            have HO8 := Lib.hid ho8
            clear ho8 hd8
            obtain ⟨g0, g1, g2⟩ : w8.cell? ⟨bx, 0, none⟩ = some (.int .i64 0) ∧ w8.cell? ⟨bx, 1, none⟩ = some (.slice none 0 0) ∧ w8.cell? ⟨bx, 2, none⟩ = some (.int .i64 0) := ⟨HX8.out.cell 0, HX8.out.cell 1, HX8.out.cell 2⟩
            have y0 := HX8.out.frozen 0
            have y1 := HX8.out.frozen 1
            have y2 := HX8.out.frozen 2
            go_wp2_with fail
            refine bodyPost_ret (v := .tuple #[.agg #[.int .i64 (f8.at_ : Int), .slice A8 n8 c8, .int .i64 f8.code], .bool true]) (fr_res rfl rfl rfl (blk_set3 HX8.out)) rfl ?_
            have hne := own_ne HO8.out HX8.out (by decide)
            rw [HP.out]
            unfold readB
            rw [if_neg (by decide), HPP.out]
            exact ⟨⟨A8, n8, c8, rfl, own_base (own_setCell (own_setCell (own_setCell HO8.out hne _) hne _) hne _) HD.out.only.size⟩, v8, HD8.out.rd.box HX8.out, only_set3 (HD.out.only.trans HD8.out.only HD.out.hat.sfo) HD.out.bxs, HD.out.hat.trans HD8.out.hat HD.out.only.size⟩
      · replace hbg : s.begun = false := by simpa using hbg
        rw [hbg] at k7
        by_cases hkx : k = 2 ∧ x = 126
        · have HP := Lib.hid (show stepS k m c s x = ({ s with off := s.off + 1 }, none) by unfold stepS; rw [if_neg h1, if_neg h2, if_neg (by rw [hbg]; decide), if_pos hkx])
          obtain ⟨rfl, rfl⟩ := hkx
          obtain rfl : xi = 126 := by rw [← HXI.out]; rfl
          clear h1 h2 hbg ho1
          obtain ⟨g0, g1, g2⟩ : w1.cell? ⟨bx, 0, none⟩ = some (.int .i64 0) ∧ w1.cell? ⟨bx, 1, none⟩ = some (.slice none 0 0) ∧ w1.cell? ⟨bx, 2, none⟩ = some (.int .i64 0) := ⟨HD.out.hx.cell 0, HD.out.hx.cell 1, HD.out.hx.cell 2⟩
          have y0 := HD.out.hx.frozen 0
          have y1 := HD.out.hx.frozen 1
          have y2 := HD.out.hx.frozen 2
          go_wp2_with fail
          refine bodyPost_ret (v := .tuple #[.agg #[.int .i64 0, .slice none 0 0, .int .i64 0], .bool false]) (fr_res rfl rfl rfl (blk_set3 HD.out.hx)) rfl ?_
          rw [HP.out]
          exact ⟨rfl, _, HD.out.rd.box HD.out.hx, only_set3 HD.out.only HD.out.bxs, HD.out.hat⟩
        · have HP := Lib.hid (show stepS k m c s x = readB k m c { s with off := s.off + 1, begun := true, at_ := s.off } x by unfold stepS; rw [if_neg h1, if_neg h2, if_neg (by rw [hbg]; decide), if_neg hkx])
          have k5 : w1.cell? ⟨r, 5, none⟩ = some (.int .i64 (s.at_ : Int)) := HD.out.rd.blk.cell 5
          have HS11 := Lib.hid (show FdR br r ((s.off : Int) + 1) w1.drew from ⟨HD.out.drew.hg.cell 0, HD.out.drew.rd.blk.cell 4⟩)
          have HWR := Lib.hid (show IntKind.i64.wrap (s.off : Int) = (s.off : Int) by rw [IntKind.wrap_i64]; omega)
          rcases HF.out.k with rfl | rfl
          · clear h1 h2 hbg hkx
            go_upto_region 11 with fail
            clear ho1 kg k3 z3 k7 z7 k0 k5 q1 q2
            refine wp_region_G (S0 := (FdR br r ((s.off : Int) + 1))) (S1 := (FdR br r ((s.off : Int) + 1))) (c := 99) (by kernel_rfl) ?_
            have hHeld := HS11.out
            have h01 := (fun (W : World) (h : (FdR br r ((s.off : Int) + 1)) W) => h)
            refine wpG_takeB (i := 0) (oi := ⟨some 43, _, _, _, _, _⟩) (v := .pointer (some ⟨r, 0, none⟩)) rfl (by kernel_rfl) (by kernel_rfl) (by kernel_rfl) (by decide) (fun _ _ _ h => h) h01 rfl hHeld (Or.inl ⟨by rfl, ?_⟩) ?_
            · (intro W9 hSw; obtain ⟨v1, v2⟩ := hSw; go_simp; (try (first | with_reducible rfl | rfl | (rw [HWR.out]; done))))
            try simp only [Act.put, List.setIfInBounds_toArray, List.set_cons_zero, List.set_cons_succ]
            refine wpG_takeB (i := 1) (oi := ⟨some 44, _, _, _, _, _⟩) (v := .pointer (some ⟨r, 0, none⟩)) rfl (by kernel_rfl) (by kernel_rfl) (by kernel_rfl) (by decide) (fun _ _ _ h => h) h01 rfl hHeld (Or.inl ⟨by rfl, ?_⟩) ?_
            · (intro W9 hSw; obtain ⟨v1, v2⟩ := hSw; go_simp; (try (first | with_reducible rfl | rfl | (rw [HWR.out]; done))))
            try simp only [Act.put, List.setIfInBounds_toArray, List.set_cons_zero, List.set_cons_succ]
            refine wpG_takeB (i := 2) (oi := ⟨some 45, _, _, _, _, _⟩) (v := .pointer (some ⟨r, 0, none⟩)) rfl (by kernel_rfl) (by kernel_rfl) (by kernel_rfl) (by decide) (fun _ _ _ h => h) h01 rfl hHeld (Or.inl ⟨by rfl, ?_⟩) ?_
            · (intro W9 hSw; obtain ⟨v1, v2⟩ := hSw; go_simp; (try (first | with_reducible rfl | rfl | (rw [HWR.out]; done))))
            try simp only [Act.put, List.setIfInBounds_toArray, List.set_cons_zero, List.set_cons_succ]
            refine wpG_takeB (i := 3) (oi := ⟨some 46, _, _, _, _, _⟩) (v := .pointer (some ⟨r, 0, none⟩)) rfl (by kernel_rfl) (by kernel_rfl) (by kernel_rfl) (by decide) (fun _ _ _ h => h) h01 rfl hHeld (Or.inl ⟨by rfl, ?_⟩) ?_
            · (intro W9 hSw; obtain ⟨v1, v2⟩ := hSw; go_simp; (try (first | with_reducible rfl | rfl | (rw [HWR.out]; done))))
            try simp only [Act.put, List.setIfInBounds_toArray, List.set_cons_zero, List.set_cons_succ]
            refine wpG_takeB (i := 4) (oi := ⟨some 47, _, _, _, _, _⟩) (v := .pointer (some ⟨r, 4, none⟩)) rfl (by kernel_rfl) (by kernel_rfl) (by kernel_rfl) (by decide) (fun _ _ _ h => h) h01 rfl hHeld (Or.inl ⟨by rfl, ?_⟩) ?_
            · (intro W9 hSw; obtain ⟨v1, v2⟩ := hSw; go_simp; (try (first | with_reducible rfl | rfl | (rw [HWR.out]; done))))
            try simp only [Act.put, List.setIfInBounds_toArray, List.set_cons_zero, List.set_cons_succ]
            refine wpG_takeB (i := 5) (oi := ⟨some 48, _, _, _, _, _⟩) (v := .int .i64 ((s.off : Int) + 1)) rfl (by kernel_rfl) (by kernel_rfl) (by kernel_rfl) (by decide) (fun _ _ _ h => h) h01 rfl hHeld (Or.inl ⟨by rfl, ?_⟩) ?_
            · (intro W9 hSw; obtain ⟨v1, v2⟩ := hSw; go_simp; (try (first | with_reducible rfl | rfl | (rw [HWR.out]; done))))
            try simp only [Act.put, List.setIfInBounds_toArray, List.set_cons_zero, List.set_cons_succ]
            refine wpG_takeB (i := 6) (oi := ⟨some 49, _, _, _, _, _⟩) (v := .int .i64 (s.off : Int)) rfl (by kernel_rfl) (by kernel_rfl) (by kernel_rfl) (by decide) (fun _ _ _ h => h) h01 rfl hHeld (Or.inl ⟨by rfl, ?_⟩) ?_
            · (intro W9 hSw; obtain ⟨v1, v2⟩ := hSw; go_simp; (try (first | with_reducible rfl | rfl | (rw [HWR.out]; done))))
            try simp only [Act.put, List.setIfInBounds_toArray, List.set_cons_zero, List.set_cons_succ]
            refine wpG_takeB (i := 7) (oi := ⟨some 50, _, _, _, _, _⟩) (v := .pointer (some ⟨r, 0, none⟩)) rfl (by kernel_rfl) (by kernel_rfl) (by kernel_rfl) (by decide) (fun _ _ _ h => h) h01 rfl hHeld (Or.inl ⟨by rfl, ?_⟩) ?_
            · (intro W9 hSw; obtain ⟨v1, v2⟩ := hSw; go_simp; (try (first | with_reducible rfl | rfl | (rw [HWR.out]; done))))
            try simp only [Act.put, List.setIfInBounds_toArray, List.set_cons_zero, List.set_cons_succ]
            refine wpG_takeB (i := 8) (oi := ⟨some 51, _, _, _, _, _⟩) (v := .pointer (some ⟨r, 7, none⟩)) rfl (by kernel_rfl) (by kernel_rfl) (by kernel_rfl) (by decide) (fun _ _ _ h => h) h01 rfl hHeld (Or.inl ⟨by rfl, ?_⟩) ?_
            · (intro W9 hSw; obtain ⟨v1, v2⟩ := hSw; go_simp; (try (first | with_reducible rfl | rfl | (rw [HWR.out]; done))))
            try simp only [Act.put, List.setIfInBounds_toArray, List.set_cons_zero, List.set_cons_succ]
            refine wpG_oneB (i := 9) (o := ⟨none, _, _, _, _, _⟩) (by kernel_rfl) rfl rfl (fun K hK => ?_)
            have kq := HD.out.rd.blk.cell 7
            have zq := HD.out.rd.blk.frozen 7
            simp only [List.getElem?_toArray, List.getElem?_cons_zero, List.getElem?_cons_succ] at kq
            go_simp
            have HE := Lib.hid (HD.out.set_ 7 _ (HD.out.rd.set_begun true))
            refine hK.out _ _ ⟨HE.out.drew.hg.cell 0, HE.out.drew.rd.blk.cell 4⟩ (fun hHeld => ?_)
            clear hK K
            try simp only [Act.put, List.setIfInBounds_toArray, List.set_cons_zero, List.set_cons_succ]
            refine wpG_takeB (i := 10) (oi := ⟨some 52, _, _, _, _, _⟩) (v := .pointer (some ⟨r, 0, none⟩)) rfl (by kernel_rfl) (by kernel_rfl) (by kernel_rfl) (by decide) (fun _ _ _ h => h) h01 rfl hHeld (Or.inl ⟨by rfl, ?_⟩) ?_
            · (intro W9 hSw; obtain ⟨v1, v2⟩ := hSw; go_simp; (try (first | with_reducible rfl | rfl | (rw [HWR.out]; done))))
            try simp only [Act.put, List.setIfInBounds_toArray, List.set_cons_zero, List.set_cons_succ]
            refine wpG_takeB (i := 11) (oi := ⟨some 53, _, _, _, _, _⟩) (v := .pointer (some ⟨r, 5, none⟩)) rfl (by kernel_rfl) (by kernel_rfl) (by kernel_rfl) (by decide) (fun _ _ _ h => h) h01 rfl hHeld (Or.inl ⟨by rfl, ?_⟩) ?_
            · (intro W9 hSw; obtain ⟨v1, v2⟩ := hSw; go_simp; (try (first | with_reducible rfl | rfl | (rw [HWR.out]; done))))
            try simp only [Act.put, List.setIfInBounds_toArray, List.set_cons_zero, List.set_cons_succ]
            refine wpG_oneB (i := 12) (o := ⟨none, _, _, _, _, _⟩) (by kernel_rfl) rfl rfl (fun K hK => ?_)
            have kr := HD.out.rd.blk.cell 5
            have zr := HD.out.rd.blk.frozen 5
            simp only [List.getElem?_toArray, List.getElem?_cons_zero, List.getElem?_cons_succ] at kr
            go_simp
            have HE2 := Lib.hid (HE.out.set_ 5 _ (HE.out.rd.set_at s.off))
            refine hK.out _ _ ⟨HE2.out.drew.hg.cell 0, HE2.out.drew.rd.blk.cell 4⟩ (fun hHeld => ?_)
            clear hK K
            try simp only [Act.put, List.setIfInBounds_toArray, List.set_cons_zero, List.set_cons_succ]
            refine wpG_done (by kernel_rfl) ?_ _
            clear hHeld h01
            obtain ⟨w2, hw2⟩ : ∃ w2, ((w1.setCell ⟨r, 7, none⟩ (.bool true)).setCell ⟨r, 5, none⟩ (.int .i64 (s.off : Int))).drew = w2 := ⟨_, rfl⟩
            have hdn := HE2.out.drew
            rw [hw2] at hdn
            rw [hw2]
            have HD := Lib.hid hdn
            clear hw2 hdn
            have c3 := prefix_any B r 1 m c v { s with off := s.off + 1, begun := true, at_ := s.off } x w2 HF.out HD.out.rd HL.out
            rw [show Go.Proofs.Ytibkhjpjneoabaa.u8 x = .int .u8 xi from by rw [← HXI.out]; rfl] at c3
            have kg : w2.cell? ⟨br, 0, none⟩ = some (.pointer (some ⟨r, 0, none⟩)) := HD.out.hg.cell 0
            have kf : w2.cell? ⟨bf, 0, none⟩ = some (.func (.func 33) #[] #[]) := HD.out.hf.cell 0
            generalize hpp : preS m c { s with off := s.off + 1, begun := true, at_ := s.off } x = pp at *
            have HPP := Lib.hid hpp
            have C3 := Lib.hid c3
            clear hpp c3
            obtain ⟨s8, o8⟩ := pp
            cases o8 with
            | none =>
              have C4 := Lib.hid (C3.out.mono fun e w' h => (show e = .returned (.tuple #[.agg #[.int .i64 0, .slice none 0 0, .int .i64 0], .bool false]) ∧ ∃ v', StepD (w2) w' B r 1 m c v v' s8 from h))
              clear C3
              go_wp2_with (go_at_call 33; (with_reducible refine C4.out.mono ?_); rintro e w8 ⟨rfl, v8, hd8⟩; refine Hid.out ?_)
              refine Lib.hid ?_
              have HD8 := Lib.hid hd8
              have HX8 := Lib.hid (HD.out.hx.only hd8.only fun e => HD.out.apart e)
              clear hd8
              obtain ⟨g0, g1, g2⟩ : w8.cell? ⟨bx, 0, none⟩ = some (.int .i64 0) ∧ w8.cell? ⟨bx, 1, none⟩ = some (.slice none 0 0) ∧ w8.cell? ⟨bx, 2, none⟩ = some (.int .i64 0) := ⟨HX8.out.cell 0, HX8.out.cell 1, HX8.out.cell 2⟩
              have y0 := HX8.out.frozen 0
              have y1 := HX8.out.frozen 1
              have y2 := HX8.out.frozen 2
              go_wp2_with fail
              refine bodyPost_ret (v := .tuple #[.agg #[.int .i64 0, .slice none 0 0, .int .i64 0], .bool false]) (fr_res rfl rfl rfl (blk_set3 HX8.out)) rfl ?_
              rw [HP.out]
              unfold readB
              rw [if_pos rfl, HPP.out]
              exact ⟨rfl, v8, HD8.out.rd.box HX8.out, only_set3 (HD.out.only.trans HD8.out.only HD.out.hat.sfo) HD.out.bxs, HD.out.hat.trans HD8.out.hat HD.out.only.size⟩
            | some f8 =>
              have C4 := Lib.hid (C3.out.mono fun e w' h => (show (∃ A n cp, e = .returned (.tuple #[.agg #[.int .i64 (f8.at_ : Int), .slice A n cp, .int .i64 f8.code], .bool true]) ∧ w'.ownsRow (w2).heap.size 5 1 (.slice A n cp) n (f8.bytes.map Go.Proofs.Ytibkhjpjneoabaa.u8)) ∧ ∃ v', StepD (w2) w' B r 1 m c v v' s8 from h))
              clear C3
              go_wp2_with (go_at_call 33; (with_reducible refine C4.out.mono ?_); rintro e w8 ⟨⟨A8, n8, c8, rfl, ho8⟩, v8, hd8⟩; refine Hid.out ?_)
              refine Lib.hid ?_
              have HD8 := Lib.hid hd8
              have HX8 := Lib.hid (HD.out.hx.only hd8.only fun e => HD.out.apart e)
              have HO8 := Lib.hid ho8
              clear ho8 hd8
              obtain ⟨g0, g1, g2⟩ : w8.cell? ⟨bx, 0, none⟩ = some (.int .i64 0) ∧ w8.cell? ⟨bx, 1, none⟩ = some (.slice none 0 0) ∧ w8.cell? ⟨bx, 2, none⟩ = some (.int .i64 0) := ⟨HX8.out.cell 0, HX8.out.cell 1, HX8.out.cell 2⟩
              have y0 := HX8.out.frozen 0
              have y1 := HX8.out.frozen 1
              have y2 := HX8.out.frozen 2
              go_wp2_with fail
              refine bodyPost_ret (v := .tuple #[.agg #[.int .i64 (f8.at_ : Int), .slice A8 n8 c8, .int .i64 f8.code], .bool true]) (fr_res rfl rfl rfl (blk_set3 HX8.out)) rfl ?_
              have hne := own_ne HO8.out HX8.out (by decide)
              rw [HP.out]
              unfold readB
              rw [if_pos rfl, HPP.out]
              exact ⟨⟨A8, n8, c8, rfl, own_base (own_setCell (own_setCell (own_setCell HO8.out hne _) hne _) hne _) HD.out.only.size⟩, v8, HD8.out.rd.box HX8.out, only_set3 (HD.out.only.trans HD8.out.only HD.out.hat.sfo) HD.out.bxs, HD.out.hat.trans HD8.out.hat HD.out.only.size⟩
          · have q6 : (xi == 126) = false := by
              rw [← HXI.out]
              simp
              intro e
              exact hkx ⟨rfl, UInt8.toNat_inj.1 (by show x.toNat = 126; omega)⟩
            clear h1 h2 hbg hkx
            go_upto_region 11 with fail
            clear ho1 kg k3 z3 k7 z7 k0 k5 q1 q2 q6
            refine wp_region_G (S0 := (FdR br r ((s.off : Int) + 1))) (S1 := (FdR br r ((s.off : Int) + 1))) (c := 99) (by kernel_rfl) ?_
            have hHeld := HS11.out
            have h01 := (fun (W : World) (h : (FdR br r ((s.off : Int) + 1)) W) => h)
            refine wpG_takeB (i := 0) (oi := ⟨some 43, _, _, _, _, _⟩) (v := .pointer (some ⟨r, 0, none⟩)) rfl (by kernel_rfl) (by kernel_rfl) (by kernel_rfl) (by decide) (fun _ _ _ h => h) h01 rfl hHeld (Or.inl ⟨by rfl, ?_⟩) ?_
            · (intro W9 hSw; obtain ⟨v1, v2⟩ := hSw; go_simp; (try (first | with_reducible rfl | rfl | (rw [HWR.out]; done))))
            try simp only [Act.put, List.setIfInBounds_toArray, List.set_cons_zero, List.set_cons_succ]
            refine wpG_takeB (i := 1) (oi := ⟨some 44, _, _, _, _, _⟩) (v := .pointer (some ⟨r, 0, none⟩)) rfl (by kernel_rfl) (by kernel_rfl) (by kernel_rfl) (by decide) (fun _ _ _ h => h) h01 rfl hHeld (Or.inl ⟨by rfl, ?_⟩) ?_
            · (intro W9 hSw; obtain ⟨v1, v2⟩ := hSw; go_simp; (try (first | with_reducible rfl | rfl | (rw [HWR.out]; done))))
            try simp only [Act.put, List.setIfInBounds_toArray, List.set_cons_zero, List.set_cons_succ]
            refine wpG_takeB (i := 2) (oi := ⟨some 45, _, _, _, _, _⟩) (v := .pointer (some ⟨r, 0, none⟩)) rfl (by kernel_rfl) (by kernel_rfl) (by kernel_rfl) (by decide) (fun _ _ _ h => h) h01 rfl hHeld (Or.inl ⟨by rfl, ?_⟩) ?_
            · (intro W9 hSw; obtain ⟨v1, v2⟩ := hSw; go_simp; (try (first | with_reducible rfl | rfl | (rw [HWR.out]; done))))
            try simp only [Act.put, List.setIfInBounds_toArray, List.set_cons_zero, List.set_cons_succ]
            refine wpG_takeB (i := 3) (oi := ⟨some 46, _, _, _, _, _⟩) (v := .pointer (some ⟨r, 0, none⟩)) rfl (by kernel_rfl) (by kernel_rfl) (by kernel_rfl) (by decide) (fun _ _ _ h => h) h01 rfl hHeld (Or.inl ⟨by rfl, ?_⟩) ?_
            · (intro W9 hSw; obtain ⟨v1, v2⟩ := hSw; go_simp; (try (first | with_reducible rfl | rfl | (rw [HWR.out]; done))))
            try simp only [Act.put, List.setIfInBounds_toArray, List.set_cons_zero, List.set_cons_succ]
            refine wpG_takeB (i := 4) (oi := ⟨some 47, _, _, _, _, _⟩) (v := .pointer (some ⟨r, 4, none⟩)) rfl (by kernel_rfl) (by kernel_rfl) (by kernel_rfl) (by decide) (fun _ _ _ h => h) h01 rfl hHeld (Or.inl ⟨by rfl, ?_⟩) ?_
            · (intro W9 hSw; obtain ⟨v1, v2⟩ := hSw; go_simp; (try (first | with_reducible rfl | rfl | (rw [HWR.out]; done))))
            try simp only [Act.put, List.setIfInBounds_toArray, List.set_cons_zero, List.set_cons_succ]
            refine wpG_takeB (i := 5) (oi := ⟨some 48, _, _, _, _, _⟩) (v := .int .i64 ((s.off : Int) + 1)) rfl (by kernel_rfl) (by kernel_rfl) (by kernel_rfl) (by decide) (fun _ _ _ h => h) h01 rfl hHeld (Or.inl ⟨by rfl, ?_⟩) ?_
            · (intro W9 hSw; obtain ⟨v1, v2⟩ := hSw; go_simp; (try (first | with_reducible rfl | rfl | (rw [HWR.out]; done))))
            try simp only [Act.put, List.setIfInBounds_toArray, List.set_cons_zero, List.set_cons_succ]
            refine wpG_takeB (i := 6) (oi := ⟨some 49, _, _, _, _, _⟩) (v := .int .i64 (s.off : Int)) rfl (by kernel_rfl) (by kernel_rfl) (by kernel_rfl) (by decide) (fun _ _ _ h => h) h01 rfl hHeld (Or.inl ⟨by rfl, ?_⟩) ?_
            · (intro W9 hSw; obtain ⟨v1, v2⟩ := hSw; go_simp; (try (first | with_reducible rfl | rfl | (rw [HWR.out]; done))))
            try simp only [Act.put, List.setIfInBounds_toArray, List.set_cons_zero, List.set_cons_succ]
            refine wpG_takeB (i := 7) (oi := ⟨some 50, _, _, _, _, _⟩) (v := .pointer (some ⟨r, 0, none⟩)) rfl (by kernel_rfl) (by kernel_rfl) (by kernel_rfl) (by decide) (fun _ _ _ h => h) h01 rfl hHeld (Or.inl ⟨by rfl, ?_⟩) ?_
            · (intro W9 hSw; obtain ⟨v1, v2⟩ := hSw; go_simp; (try (first | with_reducible rfl | rfl | (rw [HWR.out]; done))))
            try simp only [Act.put, List.setIfInBounds_toArray, List.set_cons_zero, List.set_cons_succ]
            refine wpG_takeB (i := 8) (oi := ⟨some 51, _, _, _, _, _⟩) (v := .pointer (some ⟨r, 7, none⟩)) rfl (by kernel_rfl) (by kernel_rfl) (by kernel_rfl) (by decide) (fun _ _ _ h => h) h01 rfl hHeld (Or.inl ⟨by rfl, ?_⟩) ?_
            · (intro W9 hSw; obtain ⟨v1, v2⟩ := hSw; go_simp; (try (first | with_reducible rfl | rfl | (rw [HWR.out]; done))))
            try simp only [Act.put, List.setIfInBounds_toArray, List.set_cons_zero, List.set_cons_succ]
            refine wpG_oneB (i := 9) (o := ⟨none, _, _, _, _, _⟩) (by kernel_rfl) rfl rfl (fun K hK => ?_)
            have kq := HD.out.rd.blk.cell 7
            have zq := HD.out.rd.blk.frozen 7
            simp only [List.getElem?_toArray, List.getElem?_cons_zero, List.getElem?_cons_succ] at kq
            go_simp
            have HE := Lib.hid (HD.out.set_ 7 _ (HD.out.rd.set_begun true))
            refine hK.out _ _ ⟨HE.out.drew.hg.cell 0, HE.out.drew.rd.blk.cell 4⟩ (fun hHeld => ?_)
            clear hK K
            try simp only [Act.put, List.setIfInBounds_toArray, List.set_cons_zero, List.set_cons_succ]
            refine wpG_takeB (i := 10) (oi := ⟨some 52, _, _, _, _, _⟩) (v := .pointer (some ⟨r, 0, none⟩)) rfl (by kernel_rfl) (by kernel_rfl) (by kernel_rfl) (by decide) (fun _ _ _ h => h) h01 rfl hHeld (Or.inl ⟨by rfl, ?_⟩) ?_
            · (intro W9 hSw; obtain ⟨v1, v2⟩ := hSw; go_simp; (try (first | with_reducible rfl | rfl | (rw [HWR.out]; done))))
            try simp only [Act.put, List.setIfInBounds_toArray, List.set_cons_zero, List.set_cons_succ]
            refine wpG_takeB (i := 11) (oi := ⟨some 53, _, _, _, _, _⟩) (v := .pointer (some ⟨r, 5, none⟩)) rfl (by kernel_rfl) (by kernel_rfl) (by kernel_rfl) (by decide) (fun _ _ _ h => h) h01 rfl hHeld (Or.inl ⟨by rfl, ?_⟩) ?_
            · (intro W9 hSw; obtain ⟨v1, v2⟩ := hSw; go_simp; (try (first | with_reducible rfl | rfl | (rw [HWR.out]; done))))
            try simp only [Act.put, List.setIfInBounds_toArray, List.set_cons_zero, List.set_cons_succ]
            refine wpG_oneB (i := 12) (o := ⟨none, _, _, _, _, _⟩) (by kernel_rfl) rfl rfl (fun K hK => ?_)
            have kr := HD.out.rd.blk.cell 5
            have zr := HD.out.rd.blk.frozen 5
            simp only [List.getElem?_toArray, List.getElem?_cons_zero, List.getElem?_cons_succ] at kr
            go_simp
            have HE2 := Lib.hid (HE.out.set_ 5 _ (HE.out.rd.set_at s.off))
            refine hK.out _ _ ⟨HE2.out.drew.hg.cell 0, HE2.out.drew.rd.blk.cell 4⟩ (fun hHeld => ?_)
            clear hK K
            try simp only [Act.put, List.setIfInBounds_toArray, List.set_cons_zero, List.set_cons_succ]
            refine wpG_done (by kernel_rfl) ?_ _
            clear hHeld h01
            obtain ⟨w2, hw2⟩ : ∃ w2, ((w1.setCell ⟨r, 7, none⟩ (.bool true)).setCell ⟨r, 5, none⟩ (.int .i64 (s.off : Int))).drew = w2 := ⟨_, rfl⟩
            have hdn := HE2.out.drew
            rw [hw2] at hdn
            rw [hw2]
            have HD := Lib.hid hdn
            clear hw2 hdn
            have c3 := delimited_any B r 2 m c v { s with off := s.off + 1, begun := true, at_ := s.off } x w2 HF.out HD.out.rd HL.out
            rw [show Go.Proofs.Ytibkhjpjneoabaa.u8 x = .int .u8 xi from by rw [← HXI.out]; rfl] at c3
            have kg : w2.cell? ⟨br, 0, none⟩ = some (.pointer (some ⟨r, 0, none⟩)) := HD.out.hg.cell 0
            have kf : w2.cell? ⟨bf, 0, none⟩ = some (.func (.func 34) #[] #[]) := HD.out.hf.cell 0
            generalize hpp : delS m c { s with off := s.off + 1, begun := true, at_ := s.off } x = pp at *
            have HPP := Lib.hid hpp
            have C3 := Lib.hid c3
            clear hpp c3
            obtain ⟨s8, o8⟩ := pp
            cases o8 with
            | none =>
              have C4 := Lib.hid (C3.out.mono fun e w' h => (show e = .returned (.tuple #[.agg #[.int .i64 0, .slice none 0 0, .int .i64 0], .bool false]) ∧ ∃ v', StepD (w2) w' B r 2 m c v v' s8 from h))
              clear C3
              go_wp2_with (go_at_call 34; (with_reducible refine C4.out.mono ?_); rintro e w8 ⟨rfl, v8, hd8⟩; refine Hid.out ?_)
              refine Lib.hid ?_
              have HD8 := Lib.hid hd8
              have HX8 := Lib.hid (HD.out.hx.only hd8.only fun e => HD.out.apart e)
              clear hd8
              obtain ⟨g0, g1, g2⟩ : w8.cell? ⟨bx, 0, none⟩ = some (.int .i64 0) ∧ w8.cell? ⟨bx, 1, none⟩ = some (.slice none 0 0) ∧ w8.cell? ⟨bx, 2, none⟩ = some (.int .i64 0) := ⟨HX8.out.cell 0, HX8.out.cell 1, HX8.out.cell 2⟩
              have y0 := HX8.out.frozen 0
              have y1 := HX8.out.frozen 1
              have y2 := HX8.out.frozen 2
              go_wp2_with fail
              refine bodyPost_ret (v := .tuple #[.agg #[.int .i64 0, .slice none 0 0, .int .i64 0], .bool false]) (fr_res rfl rfl rfl (blk_set3 HX8.out)) rfl ?_
              rw [HP.out]
              unfold readB
              rw [if_neg (by decide), HPP.out]
              exact ⟨rfl, v8, HD8.out.rd.box HX8.out, only_set3 (HD.out.only.trans HD8.out.only HD.out.hat.sfo) HD.out.bxs, HD.out.hat.trans HD8.out.hat HD.out.only.size⟩
            | some f8 =>
              have C4 := Lib.hid (C3.out.mono fun e w' h => (show (∃ A n cp, e = .returned (.tuple #[.agg #[.int .i64 (f8.at_ : Int), .slice A n cp, .int .i64 f8.code], .bool true]) ∧ w'.ownsRow (w2).heap.size 5 1 (.slice A n cp) n (f8.bytes.map Go.Proofs.Ytibkhjpjneoabaa.u8)) ∧ ∃ v', StepD (w2) w' B r 2 m c v v' s8 from h))
              clear C3
              go_wp2_with (go_at_call 34; (with_reducible refine C4.out.mono ?_); rintro e w8 ⟨⟨A8, n8, c8, rfl, ho8⟩, v8, hd8⟩; refine Hid.out ?_)
              refine Lib.hid ?_
              have HD8 := Lib.hid hd8
              have HX8 := Lib.hid (HD.out.hx.only hd8.only fun e => HD.out.apart e)
              have HO8 := Lib.hid ho8
              clear ho8 hd8
              obtain ⟨g0, g1, g2⟩ : w8.cell? ⟨bx, 0, none⟩ = some (.int .i64 0) ∧ w8.cell? ⟨bx, 1, none⟩ = some (.slice none 0 0) ∧ w8.cell? ⟨bx, 2, none⟩ = some (.int .i64 0) := ⟨HX8.out.cell 0, HX8.out.cell 1, HX8.out.cell 2⟩
              have y0 := HX8.out.frozen 0
              have y1 := HX8.out.frozen 1
              have y2 := HX8.out.frozen 2
              go_wp2_with fail
              refine bodyPost_ret (v := .tuple #[.agg #[.int .i64 (f8.at_ : Int), .slice A8 n8 c8, .int .i64 f8.code], .bool true]) (fr_res rfl rfl rfl (blk_set3 HX8.out)) rfl ?_
              have hne := own_ne HO8.out HX8.out (by decide)
              rw [HP.out]
              unfold readB
              rw [if_neg (by decide), HPP.out]
              exact ⟨⟨A8, n8, c8, rfl, own_base (own_setCell (own_setCell (own_setCell HO8.out hne _) hne _) hne _) HD.out.only.size⟩, v8, HD8.out.rd.box HX8.out, only_set3 (HD.out.only.trans HD8.out.only HD.out.hat.sfo) HD.out.bxs, HD.out.hat.trans HD8.out.hat HD.out.only.size⟩
end Go.Proofs.Ytibkhjpjneoabaa
