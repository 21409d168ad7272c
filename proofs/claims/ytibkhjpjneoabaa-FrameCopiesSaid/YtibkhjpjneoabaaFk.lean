/- delimited: a byte of a stream with delimiters. -/
import Derived.Test.YtibkhjpjneoabaaFi
namespace Go.Proofs.Ytibkhjpjneoabaa
open Go.RowKit
set_option linter.unusedVariables false
set_option linter.unusedSimpArgs false

theorem damaged2 (B r bc br : Nat) (k m c : Int) (v : Value) (s : St) (x : UInt8) (code : Int) (w : World) (hs : RdS w B r k m c v s) (hc : Blk w bc 5 #[Go.Proofs.Ytibkhjpjneoabaa.u8 x]) (hg : Blk w br 37 #[.pointer (some ⟨r, 0, none⟩)]) :
    Calls Try.prog 51 #[.int .i64 code, .pointer (some ⟨bc, 0, none⟩), .pointer (some ⟨br, 0, none⟩)] w fun e w' => ∃ A n cp, e = .returned (.tuple #[.agg #[.int .i64 (s.at_ : Int), .slice A n cp, .int .i64 code], .bool true]) ∧ w'.ownsRow w.heap.size 5 1 (.slice A n cp) n (([] : List UInt8).map Go.Proofs.Ytibkhjpjneoabaa.u8) ∧ ∃ v', StepD w w' B r k m c v v' (damS s x code).1 :=
  (damaged_any B r bc br k m c v s x code w hs hc hg).mono fun e w' h => by
    obtain ⟨h1, h2⟩ := h
    obtain ⟨A, n, cp, h3, h4⟩ : ∃ A n cp, e = .returned (.tuple #[.agg #[.int .i64 (s.at_ : Int), .slice A n cp, .int .i64 code], .bool true]) ∧ w'.ownsRow w.heap.size 5 1 (.slice A n cp) n (([] : List UInt8).map Go.Proofs.Ytibkhjpjneoabaa.u8) := h1
    exact ⟨A, n, cp, h3, h4, h2⟩
/-- The cells that an append of the reader reads. -/
def DlR (br r bc : Nat) (hv : Value) (xx : Int) (W : World) : Prop := W.cell? ⟨br, 0, none⟩ = some (.pointer (some ⟨r, 0, none⟩)) ∧ W.cell? ⟨r, 6, none⟩ = some hv ∧ W.cell? ⟨bc, 0, none⟩ = some (.int .u8 xx)
def DlB (br r : Nat) (W : World) : Prop := W.cell? ⟨br, 0, none⟩ = some (.pointer (some ⟨r, 0, none⟩))
def Dl13 (br r : Nat) (m c : Int) (A : Option Addr) (n cp : Nat) (W : World) : Prop := W.cell? ⟨br, 0, none⟩ = some (.pointer (some ⟨r, 0, none⟩)) ∧ W.cell? ⟨r, 6, none⟩ = some (.slice A n cp) ∧ W.cell? ⟨r, 1, none⟩ = some (.int .i64 m) ∧ W.cell? ⟨r, 2, none⟩ = some (.int .i64 c)
/-- The state within the call. -/
structure DlS (w W : World) (B r : Nat) (k m c : Int) (v0 v : Value) (s : St) (br bc bx : Nat) (x : UInt8) : Prop where
  rd : RdS W B r k m c v s
  hx : Blk W bx 44 #[.int .i64 0, .slice none 0 0, .int .i64 0]
  hc : Blk W bc 5 #[Go.Proofs.Ytibkhjpjneoabaa.u8 x]
  hg : Blk W br 37 #[.pointer (some ⟨r, 0, none⟩)]
  only : Only (SFo r v0) w W
  hat : Hat v0 v w
  bxs : w.heap.size ≤ bx
  bcs : w.heap.size ≤ bc
  cne : v.ownBlock ≠ some bc
section
variable {w W W2 : World} {B r br bc bx : Nat} {k m c : Int} {v0 v v2 : Value} {s : St} {x : UInt8}
theorem DlS.apart (h : DlS w W B r k m c v0 v s br bc bx x) : ¬ SFo r v bx := fun e => by
  rcases e with e | e
  · exact (h.rd.blk.ne h.hx (by decide)) e.symm
  · exact own_ne h.rd.own h.hx (by decide) e
theorem DlS.apart2 (h : DlS w W B r k m c v0 v s br bc bx x) : ¬ SFo r v br := fun e => by
  rcases e with e | e
  · exact (h.rd.blk.ne h.hg (by decide)) e.symm
  · exact own_ne h.rd.own h.hg (by decide) e
theorem DlS.below (h : DlS w W B r k m c v0 v s br bc bx x) (hb : Below W.heap.size W W2) : DlS w W2 B r k m c v0 v s br bc bx x :=
  ⟨h.rd.below hb, h.hx.below hb h.hx.lt, h.hc.below hb h.hc.lt, h.hg.below hb h.hg.lt, h.only.below hb, h.hat, h.bxs, h.bcs, h.cne⟩
theorem DlS.drew (h : DlS w W B r k m c v0 v s br bc bx x) : DlS w W.drew B r k m c v0 v s br bc bx x := h.below (below_drew (Below.refl _ W))
theorem DlS.dl13 {A : Option Addr} {n cp : Nat} (h : DlS w W B r k m c v0 (.slice A n cp) s br bc bx x) : Dl13 br r m c A n cp W := ⟨h.hg.cell 0, h.rd.blk.cell 6, h.rd.blk.cell 1, h.rd.blk.cell 2⟩
theorem DlS.set_ (h : DlS w W B r k m c v0 v s br bc bx x) (i : Nat) (u : Value) {s' : St} (hr : RdS (W.setCell ⟨r, i, none⟩ u) B r k m c v s') : DlS w (W.setCell ⟨r, i, none⟩ u) B r k m c v0 v s' br bc bx x :=
  ⟨hr, h.hx.far (by simpa using fun e => (h.rd.blk.ne h.hx (by decide)) e.symm) _, h.hc.far (by simpa using fun e => (h.rd.blk.ne h.hc (by decide)) e.symm) _, h.hg.far (by simpa using fun e => (h.rd.blk.ne h.hg (by decide)) e.symm) _, h.only.set (fun _ => .inl rfl) i u, h.hat, h.bxs, h.bcs, h.cne⟩
theorem RdS.set_esc (h : RdS W B r k m c v s) (z : Bool) : RdS (W.setCell ⟨r, 8, none⟩ (.bool z)) B r k m c v { s with esc := z } := by
  have hb := h.blk.set_ 8 (.bool z)
  simp only [List.setIfInBounds_toArray, List.set_cons_zero, List.set_cons_succ] at hb
  exact ⟨hb, own_setCell h.own h.ne _, by simpa using h.base, h.nil⟩
theorem DlS.push {o : Obj} {ys : List UInt8} (h : DlS w W B r k m c v0 v s br bc bx x) (hown : W2.ownsRow B 5 1 v2 (s.held.length + ys.length) (s.held.map u8 ++ ys.map u8)) (hg : (W.alloc o).grownBy W2 v.ownBlock) (hat : v2.ownBlock = v.ownBlock ∨ v2.ownBlock = some (W.alloc o).heap.size) (hy : ys ≠ [] := by simp) :
    DlS w (W2.setCell ⟨r, 6, none⟩ v2) B r k m c v0 v2 { s with held := s.held ++ ys } br bc bx x := by
  obtain ⟨h1, h2, h3⟩ := h.rd.push hown hg hat hy
  refine ⟨h1, h.hx.only h2 fun e => h.apart e, h.hc.only h2 fun e => ?_, h.hg.only h2 fun e => ?_, h.only.trans h2 h.hat.sfo, h.hat.trans h3 h.only.size, h.bxs, h.bcs, fun e => ?_⟩
  · rcases e with e | e
    · exact (h.rd.blk.ne h.hc (by decide)) e.symm
    · exact h.cne e
  · rcases e with e | e
    · exact (h.rd.blk.ne h.hg (by decide)) e.symm
    · exact own_ne h.rd.own h.hg (by decide) e
  · rcases hat with e2 | e2
    · exact h.cne (e2 ▸ e)
    · rw [e2] at e
      injection e with e
      have := h.hc.lt
      simp at e
      omega
end
theorem wrap_mt (m c : Int) {k : Int} (h : OkF k m c) : IntKind.i64.wrap (m + (tailN c : Int)) = m + (tailN c : Int) := by
  have h1 := h.m1
  have h2 := h.m2
  have h3 := tailN_le c
  rw [IntKind.wrap_i64]; omega

set_option maxRecDepth 100000 in
set_option maxHeartbeats 8000000 in
theorem delimited_any (B r : Nat) (k m c : Int) (v : Value) (s : St) (x : UInt8) (w : World) (hF : OkF k m c) (hs : RdS w B r k m c v s) (hl : s.held.length ≤ 40000) :
    Calls Try.prog 34 #[.pointer (some ⟨r, 0, none⟩), Go.Proofs.Ytibkhjpjneoabaa.u8 x] w (Stepped w B r k m c v (delS m c s x)) := by
  obtain ⟨A1, c1, rfl⟩ := hs.form
  obtain ⟨xi, hxi⟩ : ∃ xi : Int, (x.toNat : Int) = xi := ⟨_, rfl⟩
  obtain ⟨W0, hW0⟩ : ∃ W0, ((w.alloc (.cells #[.pointer (some ⟨r, 0, none⟩)] 37)).alloc (.cells #[.int .u8 xi] 5)).alloc (.cells #[.int .i64 0, .slice none 0 0, .int .i64 0] 44) = W0 := ⟨_, rfl⟩
  have hb0 : Below w.heap.size w W0 := hW0 ▸ (((Below.refl _ w).alloc (Nat.le_refl _) _).alloc (by simp only [World.size_alloc]; omega) _).alloc (by simp only [World.size_alloc]; omega) _
  have hd0 : DlS w W0 B r k m c (.slice A1 s.held.length c1) (.slice A1 s.held.length c1) s w.heap.size (w.heap.size + 1) (w.heap.size + 1 + 1) x := by
    have b1 := Blk.new w 37 #[.pointer (some ⟨r, 0, none⟩)]
    have b2 := Blk.new (w.alloc (.cells #[.pointer (some ⟨r, 0, none⟩)] 37)) 5 #[.int .u8 xi]
    have b3 := Blk.new ((w.alloc (.cells #[.pointer (some ⟨r, 0, none⟩)] 37)).alloc (.cells #[.int .u8 xi] 5)) 44 #[.int .i64 0, .slice none 0 0, .int .i64 0]
    simp only [World.size_alloc] at b1 b2 b3
    refine ⟨hs.below hb0, hW0 ▸ b3, hW0 ▸ (by rw [← hxi] at b2 ⊢; exact b2.alloc _), hW0 ▸ (b1.alloc _).alloc _, Only.of_below hb0, Hat.refl _ _, by omega, by omega, fun e => ?_⟩
    have := own_lt hs.own _ e
    omega
  have HW0 := Lib.hid hW0
  have HD0 := Lib.hid hd0
  have HF := Lib.hid hF
  have HL := Lib.hid hl
  have HXI := Lib.hid hxi
  obtain ⟨bc, hbc⟩ : ∃ bc, w.heap.size + 1 = bc := ⟨_, rfl⟩
  obtain ⟨bx, hbx⟩ : ∃ bx, bc + 1 = bx := ⟨_, rfl⟩
  obtain ⟨br, hbr⟩ : ∃ br, w.heap.size = br := ⟨_, rfl⟩
  rw [hbc, hbx, hbr] at HD0
  have HBR := Lib.hid (And.intro hbr (And.intro hbc hbx))
  clear hd0 hb0 hW0 hs hF hl
  show Calls Try.prog 34 #[.pointer (some ⟨r, 0, none⟩), .int .u8 (x.toNat : Int)] w _
  rw [hxi]
  clear hxi hbc hbx hbr
  have kg : W0.cell? ⟨br, 0, none⟩ = some (.pointer (some ⟨r, 0, none⟩)) := HD0.out.hg.cell 0
  have kc : W0.cell? ⟨bc, 0, none⟩ = some (.int .u8 xi) := by rw [← HXI.out]; exact HD0.out.hc.cell 0
  have k8 : W0.cell? ⟨r, 8, none⟩ = some (.bool s.esc) := HD0.out.rd.blk.cell 8
  have z8 := HD0.out.rd.blk.frozen 8
  have HD := HD0
  go_enter Try.func34, Try.ntmps34
  go_upto_region 1 with fail
  rw [HW0.out, HBR.out.2.1, HBR.out.2.2, HBR.out.1]
  clear HW0
  by_cases hE : s.esc = true
  · rw [hE] at k8
    by_cases h1 : x = 94
    · subst h1
      have HDP := Lib.hid (show delS m c s 94 = pushS m c s 94 126 by unfold delS; rw [if_pos hE, if_pos (.inl rfl)]; rfl)
      obtain rfl : xi = 94 := by rw [← HXI.out]; rfl
      obtain ⟨yy, hyy⟩ : ∃ yy : UInt8, yy = 126 := ⟨_, rfl⟩
      have HYY := Lib.hid hyy
      have HYU := Lib.hid (show [Value.int .u8 126] = [yy].map Go.Proofs.Ytibkhjpjneoabaa.u8 by rw [hyy]; rfl)
      have HCX := Lib.hid (show ∀ W : World, Blk W bc 5 #[Go.Proofs.Ytibkhjpjneoabaa.u8 94] → W.cell? ⟨bc, 0, none⟩ = some (.int .u8 94) from fun W h => h.cell 0)
      clear hE hyy
      go_upto_region 7 with fail
      obtain ⟨w2, hw2⟩ : ∃ w2, W0.setCell ⟨r, 8, none⟩ (.bool false) = w2 := ⟨_, rfl⟩
      have HD := Lib.hid (show DlS w w2 B r k m c (.slice A1 s.held.length c1) (.slice A1 s.held.length c1) { s with esc := false } br bc bx 94 from hw2 ▸ HD0.out.set_ 8 _ (HD0.out.rd.set_esc false))
      have HS7 := Lib.hid (show DlR br r bc (.slice A1 s.held.length c1) 94 w2.drew from ⟨HD.out.drew.hg.cell 0, HD.out.drew.rd.blk.cell 6, HCX.out _ HD.out.drew.hc⟩)
      rw [hw2]
      clear hw2 kg kc k8 z8
      refine wp_region_G (S0 := (DlR br r bc (.slice A1 s.held.length c1) 94)) (S1 := (fun _ => True)) (c := 11) (by kernel_rfl) ?_
      have hHeld := HS7.out
      have h01 := (fun (W : World) (h : (DlR br r bc (.slice A1 s.held.length c1) 94) W) => trivial)
      refine wpG_take0 (i := 0) (oi := ⟨some 36, _, _, _, _, _⟩) (v := .pointer (some ⟨r, 0, none⟩)) rfl (by kernel_rfl) (by kernel_rfl) (by kernel_rfl) (by decide) (by kernel_rfl) (fun _ _ _ h => h) rfl hHeld (Or.inl ⟨by rfl, ?_⟩) ?_
      · (intro W9 hSw; obtain ⟨v1, v2, v3⟩ := hSw; go_simp; (try (first | with_reducible rfl | rfl)))
      try simp only [Act.put, List.setIfInBounds_toArray, List.set_cons_zero, List.set_cons_succ]
      refine wpG_take0 (i := 1) (oi := ⟨some 37, _, _, _, _, _⟩) (v := .pointer (some ⟨r, 0, none⟩)) rfl (by kernel_rfl) (by kernel_rfl) (by kernel_rfl) (by decide) (by kernel_rfl) (fun _ _ _ h => h) rfl hHeld (Or.inl ⟨by rfl, ?_⟩) ?_
      · (intro W9 hSw; obtain ⟨v1, v2, v3⟩ := hSw; go_simp; (try (first | with_reducible rfl | rfl)))
      try simp only [Act.put, List.setIfInBounds_toArray, List.set_cons_zero, List.set_cons_succ]
      refine wpG_take0 (i := 2) (oi := ⟨some 38, _, _, _, _, _⟩) (v := .pointer (some ⟨r, 0, none⟩)) rfl (by kernel_rfl) (by kernel_rfl) (by kernel_rfl) (by decide) (by kernel_rfl) (fun _ _ _ h => h) rfl hHeld (Or.inl ⟨by rfl, ?_⟩) ?_
      · (intro W9 hSw; obtain ⟨v1, v2, v3⟩ := hSw; go_simp; (try (first | with_reducible rfl | rfl)))
      try simp only [Act.put, List.setIfInBounds_toArray, List.set_cons_zero, List.set_cons_succ]
      refine wpG_take0 (i := 3) (oi := ⟨some 39, _, _, _, _, _⟩) (v := .pointer (some ⟨r, 6, none⟩)) rfl (by kernel_rfl) (by kernel_rfl) (by kernel_rfl) (by decide) (by kernel_rfl) (fun _ _ _ h => h) rfl hHeld (Or.inl ⟨by rfl, ?_⟩) ?_
      · (intro W9 hSw; obtain ⟨v1, v2, v3⟩ := hSw; go_simp; (try (first | with_reducible rfl | rfl)))
      try simp only [Act.put, List.setIfInBounds_toArray, List.set_cons_zero, List.set_cons_succ]
      refine wpG_take0 (i := 4) (oi := ⟨some 40, _, _, _, _, _⟩) (v := .slice A1 s.held.length c1) rfl (by kernel_rfl) (by kernel_rfl) (by kernel_rfl) (by decide) (by kernel_rfl) (fun _ _ _ h => h) rfl hHeld (Or.inl ⟨by rfl, ?_⟩) ?_
      · (intro W9 hSw; obtain ⟨v1, v2, v3⟩ := hSw; go_simp; (try (first | with_reducible rfl | rfl)))
      try simp only [Act.put, List.setIfInBounds_toArray, List.set_cons_zero, List.set_cons_succ]
      refine wpG_take0 (i := 5) (oi := ⟨some 41, _, _, _, _, _⟩) (v := .int .u8 94) rfl (by kernel_rfl) (by kernel_rfl) (by kernel_rfl) (by decide) (by kernel_rfl) (fun _ _ _ h => h) rfl hHeld (Or.inl ⟨by rfl, ?_⟩) ?_
      · (intro W9 hSw; obtain ⟨v1, v2, v3⟩ := hSw; go_simp; (try (first | with_reducible rfl | rfl)))
      try simp only [Act.put, List.setIfInBounds_toArray, List.set_cons_zero, List.set_cons_succ]
      refine wpG_take0 (i := 6) (oi := ⟨some 42, _, _, _, _, _⟩) (v := .int .u8 126) rfl (by kernel_rfl) (by kernel_rfl) (by kernel_rfl) (by decide) (by kernel_rfl) (fun _ _ _ h => h) rfl hHeld (Or.inl ⟨by rfl, ?_⟩) ?_
      · (intro W9 hSw; obtain ⟨v1, v2, v3⟩ := hSw; go_simp; (try (first | with_reducible rfl | rfl)))
      try simp only [Act.put, List.setIfInBounds_toArray, List.set_cons_zero, List.set_cons_succ]
      refine wpG_oneA (i := 7) (o := ⟨some 43, _, _, _, _, _⟩) (by kernel_rfl) rfl rfl (fun K hK => ?_)
      go_simp
      have hcw := HCX.out _ (HD.out.hc.drew.alloc (.cells #[.int .u8 126] 5))
      refine hK.out _ _ ⟨(HD.out.hg.drew.alloc _).cell 0, (HD.out.rd.blk.drew.alloc _).cell 6, hcw⟩ (fun hHeld => ?_)
      clear hK K
      try simp only [Act.put, List.setIfInBounds_toArray, List.set_cons_zero, List.set_cons_succ]
      refine wpG_oneA (i := 8) (o := ⟨some 44, _, _, _, _, _⟩) (by kernel_rfl) rfl rfl (fun K hK => ?_)
      refine step_app_own (base := B) (n := s.held.length) (m := 1) (xs := s.held.map Go.Proofs.Ytibkhjpjneoabaa.u8) (news := [.int .u8 126]) rfl (.tmp 40) (.tmp 43) 28 rfl el22 rfl (own_drew (own_alloc HD.out.rd.own)) rfl (Holds.one _ _ _) (by simp [Value.oneCell']) (by have := HL.out; unfold maxLen; omega) (by have := HL.out; omega) (by have := HD.out.rd.base; simp; omega) ?_
      intro v4 w4 hown hg hat
      rw [HYU.out] at hown
      obtain ⟨A4, c4, rfl, -⟩ := own_form hown
      replace hg : (w2.drew.alloc (.cells #[.int .u8 126] 5)).grownBy w4 (Value.slice A1 s.held.length c1).ownBlock := hg
      have HPU := Lib.hid (HD.out.drew.push (ys := [yy]) hown hg hat)
      have HCL := Lib.hid (HCX.out _ ((HD.out.drew.hc.alloc _).grown hg (fun e => HD.out.cne e.symm)))
      have HBL := Lib.hid ((HD.out.drew.rd.blk.alloc _).grown hg (by have := HD.out.rd.ne; intro e; exact this e.symm))
      have HGL := Lib.hid ((HD.out.hg.drew.alloc _).grown hg (fun e => own_ne HD.out.rd.own HD.out.hg (by decide) e.symm))
      clear hown hg hat
      refine hK.out _ _ ⟨HGL.out.cell 0, HBL.out.cell 6, HCL.out⟩ (fun hHeld => ?_)
      clear hK K
      try simp only [Act.put, List.setIfInBounds_toArray, List.set_cons_zero, List.set_cons_succ]
      refine wpG_takeA (i := 9) (oi := ⟨some 45, _, _, _, _, _⟩) (v := .pointer (some ⟨r, 0, none⟩)) rfl (by kernel_rfl) (by kernel_rfl) (by kernel_rfl) (by decide) (fun _ _ _ h => h) h01 rfl hHeld (Or.inl ⟨by rfl, ?_⟩) ?_
      · (intro W9 hSw; go_simp; (try (first | with_reducible rfl | rfl)))
      try simp only [Act.put, List.setIfInBounds_toArray, List.set_cons_zero, List.set_cons_succ]
      refine wpG_takeA (i := 10) (oi := ⟨some 46, _, _, _, _, _⟩) (v := .pointer (some ⟨r, 6, none⟩)) rfl (by kernel_rfl) (by kernel_rfl) (by kernel_rfl) (by decide) (fun _ _ _ h => h) h01 rfl hHeld (Or.inl ⟨by rfl, ?_⟩) ?_
      · (intro W9 hSw; go_simp; (try (first | with_reducible rfl | rfl)))
      try simp only [Act.put, List.setIfInBounds_toArray, List.set_cons_zero, List.set_cons_succ]
      refine wpG_oneB (i := 11) (o := ⟨none, _, _, _, _, _⟩) (by kernel_rfl) rfl rfl (fun K hK => ?_)
      have kq := HBL.out.cell 6
      have zq := HBL.out.frozen 6
      simp only [List.getElem?_toArray, List.getElem?_cons_zero, List.getElem?_cons_succ] at kq
      go_simp
      refine hK.out _ _ trivial (fun hHeld => ?_)
      clear hK K
      try simp only [Act.put, List.setIfInBounds_toArray, List.set_cons_zero, List.set_cons_succ]
      refine wpG_done (by kernel_rfl) ?_ _
      clear hHeld h01
      obtain ⟨w5, hw5⟩ : ∃ w5, w4.setCell ⟨r, 6, none⟩ (.slice A4 (s.held.length + 1) c4) = w5 := ⟨_, rfl⟩
      have hdn := HPU.out
      rw [hw5] at hdn
      rw [hw5]
      obtain ⟨hl, hhl⟩ : ∃ hl, s.held.length + 1 = hl := ⟨_, rfl⟩
      rw [hhl] at hdn
      rw [hhl]
      have HHL := Lib.hid hhl
      have HLE := Lib.hid (show (s.held ++ [yy]).length = hl by rw [← hhl]; simp)
      have HD := Lib.hid hdn
      have HS13 := Lib.hid (HD.out.drew.dl13)
      have HWR := Lib.hid (wrap_mt m c HF.out)
      have HL40 := Lib.hid (show (hl : Int) ≤ 40001 by have := HL.out; omega)
      clear hw5 hdn hhl HPU HCL HGL HBL
      go_upto_region 13 with fail
      refine wp_region_G (S0 := (Dl13 br r m c A4 hl c4)) (S1 := (Dl13 br r m c A4 hl c4)) (c := 99) (by kernel_rfl) ?_
      have hHeld := HS13.out
      have h01 := (fun (W : World) (h : (Dl13 br r m c A4 hl c4) W) => h)
      refine wpG_takeB (i := 0) (oi := ⟨some 67, _, _, _, _, _⟩) (v := .pointer (some ⟨r, 0, none⟩)) rfl (by kernel_rfl) (by kernel_rfl) (by kernel_rfl) (by decide) (fun _ _ _ h => h) h01 rfl hHeld (Or.inl ⟨by rfl, ?_⟩) ?_
      · (intro W9 hSw; obtain ⟨v1, v2, v3, v4⟩ := hSw; go_simp; (try (first | with_reducible rfl | rfl | (rw [HWR.out]; done))))
      try simp only [Act.put, List.setIfInBounds_toArray, List.set_cons_zero, List.set_cons_succ]
      refine wpG_takeB (i := 1) (oi := ⟨some 68, _, _, _, _, _⟩) (v := .pointer (some ⟨r, 0, none⟩)) rfl (by kernel_rfl) (by kernel_rfl) (by kernel_rfl) (by decide) (fun _ _ _ h => h) h01 rfl hHeld (Or.inl ⟨by rfl, ?_⟩) ?_
      · (intro W9 hSw; obtain ⟨v1, v2, v3, v4⟩ := hSw; go_simp; (try (first | with_reducible rfl | rfl | (rw [HWR.out]; done))))
      try simp only [Act.put, List.setIfInBounds_toArray, List.set_cons_zero, List.set_cons_succ]
      refine wpG_takeB (i := 2) (oi := ⟨some 69, _, _, _, _, _⟩) (v := .pointer (some ⟨r, 6, none⟩)) rfl (by kernel_rfl) (by kernel_rfl) (by kernel_rfl) (by decide) (fun _ _ _ h => h) h01 rfl hHeld (Or.inl ⟨by rfl, ?_⟩) ?_
      · (intro W9 hSw; obtain ⟨v1, v2, v3, v4⟩ := hSw; go_simp; (try (first | with_reducible rfl | rfl | (rw [HWR.out]; done))))
      try simp only [Act.put, List.setIfInBounds_toArray, List.set_cons_zero, List.set_cons_succ]
      refine wpG_takeB (i := 3) (oi := ⟨some 70, _, _, _, _, _⟩) (v := .slice A4 hl c4) rfl (by kernel_rfl) (by kernel_rfl) (by kernel_rfl) (by decide) (fun _ _ _ h => h) h01 rfl hHeld (Or.inl ⟨by rfl, ?_⟩) ?_
      · (intro W9 hSw; obtain ⟨v1, v2, v3, v4⟩ := hSw; go_simp; (try (first | with_reducible rfl | rfl | (rw [HWR.out]; done))))
      try simp only [Act.put, List.setIfInBounds_toArray, List.set_cons_zero, List.set_cons_succ]
      refine wpG_takeB (i := 4) (oi := ⟨some 71, _, _, _, _, _⟩) (v := .int .i64 (hl : Int)) rfl (by kernel_rfl) (by kernel_rfl) (by kernel_rfl) (by decide) (fun _ _ _ h => h) h01 rfl hHeld (Or.inl ⟨by rfl, ?_⟩) ?_
      · (intro W9 hSw; obtain ⟨v1, v2, v3, v4⟩ := hSw; go_simp; (try (first | with_reducible rfl | rfl | (rw [HWR.out]; done))))
      try simp only [Act.put, List.setIfInBounds_toArray, List.set_cons_zero, List.set_cons_succ]
      refine wpG_takeB (i := 5) (oi := ⟨some 72, _, _, _, _, _⟩) (v := .pointer (some ⟨r, 0, none⟩)) rfl (by kernel_rfl) (by kernel_rfl) (by kernel_rfl) (by decide) (fun _ _ _ h => h) h01 rfl hHeld (Or.inl ⟨by rfl, ?_⟩) ?_
      · (intro W9 hSw; obtain ⟨v1, v2, v3, v4⟩ := hSw; go_simp; (try (first | with_reducible rfl | rfl | (rw [HWR.out]; done))))
      try simp only [Act.put, List.setIfInBounds_toArray, List.set_cons_zero, List.set_cons_succ]
      refine wpG_takeB (i := 6) (oi := ⟨some 73, _, _, _, _, _⟩) (v := .pointer (some ⟨r, 0, none⟩)) rfl (by kernel_rfl) (by kernel_rfl) (by kernel_rfl) (by decide) (fun _ _ _ h => h) h01 rfl hHeld (Or.inl ⟨by rfl, ?_⟩) ?_
      · (intro W9 hSw; obtain ⟨v1, v2, v3, v4⟩ := hSw; go_simp; (try (first | with_reducible rfl | rfl | (rw [HWR.out]; done))))
      try simp only [Act.put, List.setIfInBounds_toArray, List.set_cons_zero, List.set_cons_succ]
      refine wpG_takeB (i := 7) (oi := ⟨some 74, _, _, _, _, _⟩) (v := .pointer (some ⟨r, 0, none⟩)) rfl (by kernel_rfl) (by kernel_rfl) (by kernel_rfl) (by decide) (fun _ _ _ h => h) h01 rfl hHeld (Or.inl ⟨by rfl, ?_⟩) ?_
      · (intro W9 hSw; obtain ⟨v1, v2, v3, v4⟩ := hSw; go_simp; (try (first | with_reducible rfl | rfl | (rw [HWR.out]; done))))
      try simp only [Act.put, List.setIfInBounds_toArray, List.set_cons_zero, List.set_cons_succ]
      refine wpG_takeB (i := 8) (oi := ⟨some 75, _, _, _, _, _⟩) (v := .pointer (some ⟨r, 1, none⟩)) rfl (by kernel_rfl) (by kernel_rfl) (by kernel_rfl) (by decide) (fun _ _ _ h => h) h01 rfl hHeld (Or.inl ⟨by rfl, ?_⟩) ?_
      · (intro W9 hSw; obtain ⟨v1, v2, v3, v4⟩ := hSw; go_simp; (try (first | with_reducible rfl | rfl | (rw [HWR.out]; done))))
      try simp only [Act.put, List.setIfInBounds_toArray, List.set_cons_zero, List.set_cons_succ]
      refine wpG_takeB (i := 9) (oi := ⟨some 76, _, _, _, _, _⟩) (v := .int .i64 m) rfl (by kernel_rfl) (by kernel_rfl) (by kernel_rfl) (by decide) (fun _ _ _ h => h) h01 rfl hHeld (Or.inl ⟨by rfl, ?_⟩) ?_
      · (intro W9 hSw; obtain ⟨v1, v2, v3, v4⟩ := hSw; go_simp; (try (first | with_reducible rfl | rfl | (rw [HWR.out]; done))))
      try simp only [Act.put, List.setIfInBounds_toArray, List.set_cons_zero, List.set_cons_succ]
      refine wpG_takeB (i := 10) (oi := ⟨some 77, _, _, _, _, _⟩) (v := .pointer (some ⟨r, 0, none⟩)) rfl (by kernel_rfl) (by kernel_rfl) (by kernel_rfl) (by decide) (fun _ _ _ h => h) h01 rfl hHeld (Or.inl ⟨by rfl, ?_⟩) ?_
      · (intro W9 hSw; obtain ⟨v1, v2, v3, v4⟩ := hSw; go_simp; (try (first | with_reducible rfl | rfl | (rw [HWR.out]; done))))
      try simp only [Act.put, List.setIfInBounds_toArray, List.set_cons_zero, List.set_cons_succ]
      refine wpG_takeB (i := 11) (oi := ⟨some 78, _, _, _, _, _⟩) (v := .pointer (some ⟨r, 0, none⟩)) rfl (by kernel_rfl) (by kernel_rfl) (by kernel_rfl) (by decide) (fun _ _ _ h => h) h01 rfl hHeld (Or.inl ⟨by rfl, ?_⟩) ?_
      · (intro W9 hSw; obtain ⟨v1, v2, v3, v4⟩ := hSw; go_simp; (try (first | with_reducible rfl | rfl | (rw [HWR.out]; done))))
      try simp only [Act.put, List.setIfInBounds_toArray, List.set_cons_zero, List.set_cons_succ]
      refine wpG_takeB (i := 12) (oi := ⟨some 79, _, _, _, _, _⟩) (v := .pointer (some ⟨r, 0, none⟩)) rfl (by kernel_rfl) (by kernel_rfl) (by kernel_rfl) (by decide) (fun _ _ _ h => h) h01 rfl hHeld (Or.inl ⟨by rfl, ?_⟩) ?_
      · (intro W9 hSw; obtain ⟨v1, v2, v3, v4⟩ := hSw; go_simp; (try (first | with_reducible rfl | rfl | (rw [HWR.out]; done))))
      try simp only [Act.put, List.setIfInBounds_toArray, List.set_cons_zero, List.set_cons_succ]
      refine wpG_takeB (i := 13) (oi := ⟨some 80, _, _, _, _, _⟩) (v := .pointer (some ⟨r, 2, none⟩)) rfl (by kernel_rfl) (by kernel_rfl) (by kernel_rfl) (by decide) (fun _ _ _ h => h) h01 rfl hHeld (Or.inl ⟨by rfl, ?_⟩) ?_
      · (intro W9 hSw; obtain ⟨v1, v2, v3, v4⟩ := hSw; go_simp; (try (first | with_reducible rfl | rfl | (rw [HWR.out]; done))))
      try simp only [Act.put, List.setIfInBounds_toArray, List.set_cons_zero, List.set_cons_succ]
      refine wpG_takeB (i := 14) (oi := ⟨some 81, _, _, _, _, _⟩) (v := .int .i64 c) rfl (by kernel_rfl) (by kernel_rfl) (by kernel_rfl) (by decide) (fun _ _ _ h => h) h01 rfl hHeld (Or.inl ⟨by rfl, ?_⟩) ?_
      · (intro W9 hSw; obtain ⟨v1, v2, v3, v4⟩ := hSw; go_simp; (try (first | with_reducible rfl | rfl | (rw [HWR.out]; done))))
      try simp only [Act.put, List.setIfInBounds_toArray, List.set_cons_zero, List.set_cons_succ]
      refine wpG_oneB (i := 15) (o := ⟨some 82, _, _, _, _, _⟩) (by kernel_rfl) rfl rfl (fun K hK => ?_)
      go_simp
      (with_reducible refine (sum_any c HF.out.c1 HF.out.c2 none 0 0 [] w5.drew (RB.nil _) (by omega)).mono ?_); rintro e w6 ⟨A9, c9, rfl, -, b6⟩
      have HD6 := Lib.hid (HD.out.below (Below.trans (below_drew (Below.refl _ w5)) b6))
      clear b6
      refine hK.out _ _ HD6.out.dl13 (fun hHeld => ?_)
      clear hK K
      try simp only [Act.put, List.setIfInBounds_toArray, List.set_cons_zero, List.set_cons_succ]
      refine wpG_takeB (i := 16) (oi := ⟨some 83, _, _, _, _, _⟩) (v := .int .i64 (tailN c : Int)) rfl (by kernel_rfl) (by kernel_rfl) (by kernel_rfl) (by decide) (fun _ _ _ h => h) h01 rfl hHeld (Or.inl ⟨by rfl, ?_⟩) ?_
      · (intro W9 hSw; obtain ⟨v1, v2, v3, v4⟩ := hSw; go_simp; (try (first | with_reducible rfl | rfl | (rw [HWR.out]; done))))
      try simp only [Act.put, List.setIfInBounds_toArray, List.set_cons_zero, List.set_cons_succ]
      refine wpG_takeB (i := 17) (oi := ⟨some 84, _, _, _, _, _⟩) (v := .int .i64 (m + (tailN c : Int))) rfl (by kernel_rfl) (by kernel_rfl) (by kernel_rfl) (by decide) (fun _ _ _ h => h) h01 rfl hHeld (Or.inl ⟨by rfl, ?_⟩) ?_
      · (intro W9 hSw; obtain ⟨v1, v2, v3, v4⟩ := hSw; go_simp; (try (first | with_reducible rfl | rfl | (rw [HWR.out]; done))))
      try simp only [Act.put, List.setIfInBounds_toArray, List.set_cons_zero, List.set_cons_succ]
      refine wpG_takeB (i := 18) (oi := ⟨some 85, _, _, _, _, _⟩) (v := .bool (decide (m + (tailN c : Int) < (hl : Int)))) rfl (by kernel_rfl) (by kernel_rfl) (by kernel_rfl) (by decide) (fun _ _ _ h => h) h01 rfl hHeld (Or.inl ⟨by rfl, ?_⟩) ?_
      · (intro W9 hSw; obtain ⟨v1, v2, v3, v4⟩ := hSw; go_simp; (try (first | with_reducible rfl | rfl | (rw [HWR.out]; done))))
      try simp only [Act.put, List.setIfInBounds_toArray, List.set_cons_zero, List.set_cons_succ]
      refine wpG_done (by kernel_rfl) ?_ _
      clear hHeld h01
      have HD := HD6
      by_cases hgt : m + (tailN c : Int) < (hl : Int)
      · have q9 : decide (m + (tailN c : Int) < (hl : Int)) = true := by simpa using hgt
        have HP := Lib.hid (show delS m c s 94 = damS { s with esc := false, held := s.held ++ [yy] } 94 5 from by rw [HDP.out]; unfold pushS; rw [if_pos (by rw [← HYY.out, HLE.out]; exact hgt)]; rfl)
        rw [q9]
        clear hgt q9
        have C51 := Lib.hid (damaged2 B r bc br k m c (.slice A4 hl c4) { s with esc := false, held := s.held ++ [yy] } 94 5 w6 HD.out.rd HD.out.hc HD.out.hg)
        go_wp2_with (go_at_call 51; (with_reducible refine C51.out.mono ?_); rintro e w8 ⟨A8, n8, c8, rfl, ho8, v8, hd8⟩; refine Hid.out ?_)
        refine Lib.hid ?_
        have HO8 := Lib.hid ho8
        have HD8 := Lib.hid hd8
        have HX8 := Lib.hid (HD.out.hx.only hd8.only fun e => HD.out.apart e)
        obtain ⟨g0, g1, g2⟩ : w8.cell? ⟨bx, 0, none⟩ = some (.int .i64 0) ∧ w8.cell? ⟨bx, 1, none⟩ = some (.slice none 0 0) ∧ w8.cell? ⟨bx, 2, none⟩ = some (.int .i64 0) := ⟨HX8.out.cell 0, HX8.out.cell 1, HX8.out.cell 2⟩
        have y0 := HX8.out.frozen 0
        have y1 := HX8.out.frozen 1
        have y2 := HX8.out.frozen 2
        clear ho8 hd8
        go_wp2_with fail
        refine bodyPost_ret (v := .tuple #[.agg #[.int .i64 (s.at_ : Int), .slice A8 n8 c8, .int .i64 5], .bool true]) (fr_res rfl rfl rfl (blk_set3 HX8.out)) rfl ?_
        have hne := own_ne HO8.out HX8.out (by decide)
        rw [HP.out]
        exact ⟨⟨A8, n8, c8, rfl, own_base (own_setCell (own_setCell (own_setCell HO8.out hne _) hne _) hne _) HD.out.only.size⟩, v8, HD8.out.rd.box HX8.out, only_set3 (HD.out.only.trans HD8.out.only HD.out.hat.sfo) HD.out.bxs, HD.out.hat.trans HD8.out.hat HD.out.only.size⟩
      · have q9 : decide (m + (tailN c : Int) < (hl : Int)) = false := by simpa using hgt
        have HP := Lib.hid (show delS m c s 94 = ({ s with esc := false, held := s.held ++ [yy] }, none) from by rw [HDP.out]; unfold pushS; rw [if_neg (by rw [← HYY.out, HLE.out]; exact hgt), HYY.out])
        rw [q9]
        clear hgt q9
        obtain ⟨g0, g1, g2⟩ : w6.cell? ⟨bx, 0, none⟩ = some (.int .i64 0) ∧ w6.cell? ⟨bx, 1, none⟩ = some (.slice none 0 0) ∧ w6.cell? ⟨bx, 2, none⟩ = some (.int .i64 0) := ⟨HD.out.hx.cell 0, HD.out.hx.cell 1, HD.out.hx.cell 2⟩
        have y0 := HD.out.hx.frozen 0
        have y1 := HD.out.hx.frozen 1
        have y2 := HD.out.hx.frozen 2
        go_wp2_with fail
        refine bodyPost_ret (v := .tuple #[.agg #[.int .i64 0, .slice none 0 0, .int .i64 0], .bool false]) (fr_res rfl rfl rfl (blk_set3 HD.out.hx)) rfl ?_
        rw [HP.out]
        exact ⟨rfl, _, HD.out.rd.box HD.out.hx, only_set3 HD.out.only HD.out.bxs, HD.out.hat⟩
    · by_cases h2 : x = 93
      · subst h2
        have HDP := Lib.hid (show delS m c s 93 = pushS m c s 93 125 by unfold delS; rw [if_pos hE, if_pos (.inr rfl)]; rfl)
        obtain rfl : xi = 93 := by rw [← HXI.out]; rfl
        obtain ⟨yy, hyy⟩ : ∃ yy : UInt8, yy = 125 := ⟨_, rfl⟩
        have HYY := Lib.hid hyy
        have HYU := Lib.hid (show [Value.int .u8 125] = [yy].map Go.Proofs.Ytibkhjpjneoabaa.u8 by rw [hyy]; rfl)
        have HCX := Lib.hid (show ∀ W : World, Blk W bc 5 #[Go.Proofs.Ytibkhjpjneoabaa.u8 93] → W.cell? ⟨bc, 0, none⟩ = some (.int .u8 93) from fun W h => h.cell 0)
        clear hE hyy
        go_upto_region 7 with fail
        obtain ⟨w2, hw2⟩ : ∃ w2, W0.setCell ⟨r, 8, none⟩ (.bool false) = w2 := ⟨_, rfl⟩
        have HD := Lib.hid (show DlS w w2 B r k m c (.slice A1 s.held.length c1) (.slice A1 s.held.length c1) { s with esc := false } br bc bx 93 from hw2 ▸ HD0.out.set_ 8 _ (HD0.out.rd.set_esc false))
        have HS7 := Lib.hid (show DlR br r bc (.slice A1 s.held.length c1) 93 w2.drew from ⟨HD.out.drew.hg.cell 0, HD.out.drew.rd.blk.cell 6, HCX.out _ HD.out.drew.hc⟩)
        rw [hw2]
        clear hw2 kg kc k8 z8
        refine wp_region_G (S0 := (DlR br r bc (.slice A1 s.held.length c1) 93)) (S1 := (fun _ => True)) (c := 11) (by kernel_rfl) ?_
        have hHeld := HS7.out
        have h01 := (fun (W : World) (h : (DlR br r bc (.slice A1 s.held.length c1) 93) W) => trivial)
        refine wpG_take0 (i := 0) (oi := ⟨some 36, _, _, _, _, _⟩) (v := .pointer (some ⟨r, 0, none⟩)) rfl (by kernel_rfl) (by kernel_rfl) (by kernel_rfl) (by decide) (by kernel_rfl) (fun _ _ _ h => h) rfl hHeld (Or.inl ⟨by rfl, ?_⟩) ?_
        · (intro W9 hSw; obtain ⟨v1, v2, v3⟩ := hSw; go_simp; (try (first | with_reducible rfl | rfl)))
        try simp only [Act.put, List.setIfInBounds_toArray, List.set_cons_zero, List.set_cons_succ]
        refine wpG_take0 (i := 1) (oi := ⟨some 37, _, _, _, _, _⟩) (v := .pointer (some ⟨r, 0, none⟩)) rfl (by kernel_rfl) (by kernel_rfl) (by kernel_rfl) (by decide) (by kernel_rfl) (fun _ _ _ h => h) rfl hHeld (Or.inl ⟨by rfl, ?_⟩) ?_
        · (intro W9 hSw; obtain ⟨v1, v2, v3⟩ := hSw; go_simp; (try (first | with_reducible rfl | rfl)))
        try simp only [Act.put, List.setIfInBounds_toArray, List.set_cons_zero, List.set_cons_succ]
        refine wpG_take0 (i := 2) (oi := ⟨some 38, _, _, _, _, _⟩) (v := .pointer (some ⟨r, 0, none⟩)) rfl (by kernel_rfl) (by kernel_rfl) (by kernel_rfl) (by decide) (by kernel_rfl) (fun _ _ _ h => h) rfl hHeld (Or.inl ⟨by rfl, ?_⟩) ?_
        · (intro W9 hSw; obtain ⟨v1, v2, v3⟩ := hSw; go_simp; (try (first | with_reducible rfl | rfl)))
        try simp only [Act.put, List.setIfInBounds_toArray, List.set_cons_zero, List.set_cons_succ]
        refine wpG_take0 (i := 3) (oi := ⟨some 39, _, _, _, _, _⟩) (v := .pointer (some ⟨r, 6, none⟩)) rfl (by kernel_rfl) (by kernel_rfl) (by kernel_rfl) (by decide) (by kernel_rfl) (fun _ _ _ h => h) rfl hHeld (Or.inl ⟨by rfl, ?_⟩) ?_
        · (intro W9 hSw; obtain ⟨v1, v2, v3⟩ := hSw; go_simp; (try (first | with_reducible rfl | rfl)))
        try simp only [Act.put, List.setIfInBounds_toArray, List.set_cons_zero, List.set_cons_succ]
        refine wpG_take0 (i := 4) (oi := ⟨some 40, _, _, _, _, _⟩) (v := .slice A1 s.held.length c1) rfl (by kernel_rfl) (by kernel_rfl) (by kernel_rfl) (by decide) (by kernel_rfl) (fun _ _ _ h => h) rfl hHeld (Or.inl ⟨by rfl, ?_⟩) ?_
        · (intro W9 hSw; obtain ⟨v1, v2, v3⟩ := hSw; go_simp; (try (first | with_reducible rfl | rfl)))
        try simp only [Act.put, List.setIfInBounds_toArray, List.set_cons_zero, List.set_cons_succ]
        refine wpG_take0 (i := 5) (oi := ⟨some 41, _, _, _, _, _⟩) (v := .int .u8 93) rfl (by kernel_rfl) (by kernel_rfl) (by kernel_rfl) (by decide) (by kernel_rfl) (fun _ _ _ h => h) rfl hHeld (Or.inl ⟨by rfl, ?_⟩) ?_
        · (intro W9 hSw; obtain ⟨v1, v2, v3⟩ := hSw; go_simp; (try (first | with_reducible rfl | rfl)))
        try simp only [Act.put, List.setIfInBounds_toArray, List.set_cons_zero, List.set_cons_succ]
        refine wpG_take0 (i := 6) (oi := ⟨some 42, _, _, _, _, _⟩) (v := .int .u8 125) rfl (by kernel_rfl) (by kernel_rfl) (by kernel_rfl) (by decide) (by kernel_rfl) (fun _ _ _ h => h) rfl hHeld (Or.inl ⟨by rfl, ?_⟩) ?_
        · (intro W9 hSw; obtain ⟨v1, v2, v3⟩ := hSw; go_simp; (try (first | with_reducible rfl | rfl)))
        try simp only [Act.put, List.setIfInBounds_toArray, List.set_cons_zero, List.set_cons_succ]
        refine wpG_oneA (i := 7) (o := ⟨some 43, _, _, _, _, _⟩) (by kernel_rfl) rfl rfl (fun K hK => ?_)
        go_simp
        have hcw := HCX.out _ (HD.out.hc.drew.alloc (.cells #[.int .u8 125] 5))
        refine hK.out _ _ ⟨(HD.out.hg.drew.alloc _).cell 0, (HD.out.rd.blk.drew.alloc _).cell 6, hcw⟩ (fun hHeld => ?_)
        clear hK K
        try simp only [Act.put, List.setIfInBounds_toArray, List.set_cons_zero, List.set_cons_succ]
        refine wpG_oneA (i := 8) (o := ⟨some 44, _, _, _, _, _⟩) (by kernel_rfl) rfl rfl (fun K hK => ?_)
        refine step_app_own (base := B) (n := s.held.length) (m := 1) (xs := s.held.map Go.Proofs.Ytibkhjpjneoabaa.u8) (news := [.int .u8 125]) rfl (.tmp 40) (.tmp 43) 28 rfl el22 rfl (own_drew (own_alloc HD.out.rd.own)) rfl (Holds.one _ _ _) (by simp [Value.oneCell']) (by have := HL.out; unfold maxLen; omega) (by have := HL.out; omega) (by have := HD.out.rd.base; simp; omega) ?_
        intro v4 w4 hown hg hat
        rw [HYU.out] at hown
        obtain ⟨A4, c4, rfl, -⟩ := own_form hown
        replace hg : (w2.drew.alloc (.cells #[.int .u8 125] 5)).grownBy w4 (Value.slice A1 s.held.length c1).ownBlock := hg
        have HPU := Lib.hid (HD.out.drew.push (ys := [yy]) hown hg hat)
        have HCL := Lib.hid (HCX.out _ ((HD.out.drew.hc.alloc _).grown hg (fun e => HD.out.cne e.symm)))
        have HBL := Lib.hid ((HD.out.drew.rd.blk.alloc _).grown hg (by have := HD.out.rd.ne; intro e; exact this e.symm))
        have HGL := Lib.hid ((HD.out.hg.drew.alloc _).grown hg (fun e => own_ne HD.out.rd.own HD.out.hg (by decide) e.symm))
        clear hown hg hat
        refine hK.out _ _ ⟨HGL.out.cell 0, HBL.out.cell 6, HCL.out⟩ (fun hHeld => ?_)
        clear hK K
        try simp only [Act.put, List.setIfInBounds_toArray, List.set_cons_zero, List.set_cons_succ]
        refine wpG_takeA (i := 9) (oi := ⟨some 45, _, _, _, _, _⟩) (v := .pointer (some ⟨r, 0, none⟩)) rfl (by kernel_rfl) (by kernel_rfl) (by kernel_rfl) (by decide) (fun _ _ _ h => h) h01 rfl hHeld (Or.inl ⟨by rfl, ?_⟩) ?_
        · (intro W9 hSw; go_simp; (try (first | with_reducible rfl | rfl)))
        try simp only [Act.put, List.setIfInBounds_toArray, List.set_cons_zero, List.set_cons_succ]
        refine wpG_takeA (i := 10) (oi := ⟨some 46, _, _, _, _, _⟩) (v := .pointer (some ⟨r, 6, none⟩)) rfl (by kernel_rfl) (by kernel_rfl) (by kernel_rfl) (by decide) (fun _ _ _ h => h) h01 rfl hHeld (Or.inl ⟨by rfl, ?_⟩) ?_
        · (intro W9 hSw; go_simp; (try (first | with_reducible rfl | rfl)))
        try simp only [Act.put, List.setIfInBounds_toArray, List.set_cons_zero, List.set_cons_succ]
        refine wpG_oneB (i := 11) (o := ⟨none, _, _, _, _, _⟩) (by kernel_rfl) rfl rfl (fun K hK => ?_)
        have kq := HBL.out.cell 6
        have zq := HBL.out.frozen 6
        simp only [List.getElem?_toArray, List.getElem?_cons_zero, List.getElem?_cons_succ] at kq
        go_simp
        refine hK.out _ _ trivial (fun hHeld => ?_)
        clear hK K
        try simp only [Act.put, List.setIfInBounds_toArray, List.set_cons_zero, List.set_cons_succ]
        refine wpG_done (by kernel_rfl) ?_ _
        clear hHeld h01
        obtain ⟨w5, hw5⟩ : ∃ w5, w4.setCell ⟨r, 6, none⟩ (.slice A4 (s.held.length + 1) c4) = w5 := ⟨_, rfl⟩
        have hdn := HPU.out
        rw [hw5] at hdn
        rw [hw5]
        obtain ⟨hl, hhl⟩ : ∃ hl, s.held.length + 1 = hl := ⟨_, rfl⟩
        rw [hhl] at hdn
        rw [hhl]
        have HHL := Lib.hid hhl
        have HLE := Lib.hid (show (s.held ++ [yy]).length = hl by rw [← hhl]; simp)
        have HD := Lib.hid hdn
        have HS13 := Lib.hid (HD.out.drew.dl13)
        have HWR := Lib.hid (wrap_mt m c HF.out)
        have HL40 := Lib.hid (show (hl : Int) ≤ 40001 by have := HL.out; omega)
        clear hw5 hdn hhl HPU HCL HGL HBL
        go_upto_region 13 with fail
        refine wp_region_G (S0 := (Dl13 br r m c A4 hl c4)) (S1 := (Dl13 br r m c A4 hl c4)) (c := 99) (by kernel_rfl) ?_
        have hHeld := HS13.out
        have h01 := (fun (W : World) (h : (Dl13 br r m c A4 hl c4) W) => h)
        refine wpG_takeB (i := 0) (oi := ⟨some 67, _, _, _, _, _⟩) (v := .pointer (some ⟨r, 0, none⟩)) rfl (by kernel_rfl) (by kernel_rfl) (by kernel_rfl) (by decide) (fun _ _ _ h => h) h01 rfl hHeld (Or.inl ⟨by rfl, ?_⟩) ?_
        · (intro W9 hSw; obtain ⟨v1, v2, v3, v4⟩ := hSw; go_simp; (try (first | with_reducible rfl | rfl | (rw [HWR.out]; done))))
        try simp only [Act.put, List.setIfInBounds_toArray, List.set_cons_zero, List.set_cons_succ]
        refine wpG_takeB (i := 1) (oi := ⟨some 68, _, _, _, _, _⟩) (v := .pointer (some ⟨r, 0, none⟩)) rfl (by kernel_rfl) (by kernel_rfl) (by kernel_rfl) (by decide) (fun _ _ _ h => h) h01 rfl hHeld (Or.inl ⟨by rfl, ?_⟩) ?_
        · (intro W9 hSw; obtain ⟨v1, v2, v3, v4⟩ := hSw; go_simp; (try (first | with_reducible rfl | rfl | (rw [HWR.out]; done))))
        try simp only [Act.put, List.setIfInBounds_toArray, List.set_cons_zero, List.set_cons_succ]
        refine wpG_takeB (i := 2) (oi := ⟨some 69, _, _, _, _, _⟩) (v := .pointer (some ⟨r, 6, none⟩)) rfl (by kernel_rfl) (by kernel_rfl) (by kernel_rfl) (by decide) (fun _ _ _ h => h) h01 rfl hHeld (Or.inl ⟨by rfl, ?_⟩) ?_
        · (intro W9 hSw; obtain ⟨v1, v2, v3, v4⟩ := hSw; go_simp; (try (first | with_reducible rfl | rfl | (rw [HWR.out]; done))))
        try simp only [Act.put, List.setIfInBounds_toArray, List.set_cons_zero, List.set_cons_succ]
        refine wpG_takeB (i := 3) (oi := ⟨some 70, _, _, _, _, _⟩) (v := .slice A4 hl c4) rfl (by kernel_rfl) (by kernel_rfl) (by kernel_rfl) (by decide) (fun _ _ _ h => h) h01 rfl hHeld (Or.inl ⟨by rfl, ?_⟩) ?_
        · (intro W9 hSw; obtain ⟨v1, v2, v3, v4⟩ := hSw; go_simp; (try (first | with_reducible rfl | rfl | (rw [HWR.out]; done))))
        try simp only [Act.put, List.setIfInBounds_toArray, List.set_cons_zero, List.set_cons_succ]
        refine wpG_takeB (i := 4) (oi := ⟨some 71, _, _, _, _, _⟩) (v := .int .i64 (hl : Int)) rfl (by kernel_rfl) (by kernel_rfl) (by kernel_rfl) (by decide) (fun _ _ _ h => h) h01 rfl hHeld (Or.inl ⟨by rfl, ?_⟩) ?_
        · (intro W9 hSw; obtain ⟨v1, v2, v3, v4⟩ := hSw; go_simp; (try (first | with_reducible rfl | rfl | (rw [HWR.out]; done))))
        try simp only [Act.put, List.setIfInBounds_toArray, List.set_cons_zero, List.set_cons_succ]
        refine wpG_takeB (i := 5) (oi := ⟨some 72, _, _, _, _, _⟩) (v := .pointer (some ⟨r, 0, none⟩)) rfl (by kernel_rfl) (by kernel_rfl) (by kernel_rfl) (by decide) (fun _ _ _ h => h) h01 rfl hHeld (Or.inl ⟨by rfl, ?_⟩) ?_
        · (intro W9 hSw; obtain ⟨v1, v2, v3, v4⟩ := hSw; go_simp; (try (first | with_reducible rfl | rfl | (rw [HWR.out]; done))))
        try simp only [Act.put, List.setIfInBounds_toArray, List.set_cons_zero, List.set_cons_succ]
        refine wpG_takeB (i := 6) (oi := ⟨some 73, _, _, _, _, _⟩) (v := .pointer (some ⟨r, 0, none⟩)) rfl (by kernel_rfl) (by kernel_rfl) (by kernel_rfl) (by decide) (fun _ _ _ h => h) h01 rfl hHeld (Or.inl ⟨by rfl, ?_⟩) ?_
        · (intro W9 hSw; obtain ⟨v1, v2, v3, v4⟩ := hSw; go_simp; (try (first | with_reducible rfl | rfl | (rw [HWR.out]; done))))
        try simp only [Act.put, List.setIfInBounds_toArray, List.set_cons_zero, List.set_cons_succ]
        refine wpG_takeB (i := 7) (oi := ⟨some 74, _, _, _, _, _⟩) (v := .pointer (some ⟨r, 0, none⟩)) rfl (by kernel_rfl) (by kernel_rfl) (by kernel_rfl) (by decide) (fun _ _ _ h => h) h01 rfl hHeld (Or.inl ⟨by rfl, ?_⟩) ?_
        · (intro W9 hSw; obtain ⟨v1, v2, v3, v4⟩ := hSw; go_simp; (try (first | with_reducible rfl | rfl | (rw [HWR.out]; done))))
        try simp only [Act.put, List.setIfInBounds_toArray, List.set_cons_zero, List.set_cons_succ]
        refine wpG_takeB (i := 8) (oi := ⟨some 75, _, _, _, _, _⟩) (v := .pointer (some ⟨r, 1, none⟩)) rfl (by kernel_rfl) (by kernel_rfl) (by kernel_rfl) (by decide) (fun _ _ _ h => h) h01 rfl hHeld (Or.inl ⟨by rfl, ?_⟩) ?_
        · (intro W9 hSw; obtain ⟨v1, v2, v3, v4⟩ := hSw; go_simp; (try (first | with_reducible rfl | rfl | (rw [HWR.out]; done))))
        try simp only [Act.put, List.setIfInBounds_toArray, List.set_cons_zero, List.set_cons_succ]
        refine wpG_takeB (i := 9) (oi := ⟨some 76, _, _, _, _, _⟩) (v := .int .i64 m) rfl (by kernel_rfl) (by kernel_rfl) (by kernel_rfl) (by decide) (fun _ _ _ h => h) h01 rfl hHeld (Or.inl ⟨by rfl, ?_⟩) ?_
        · (intro W9 hSw; obtain ⟨v1, v2, v3, v4⟩ := hSw; go_simp; (try (first | with_reducible rfl | rfl | (rw [HWR.out]; done))))
        try simp only [Act.put, List.setIfInBounds_toArray, List.set_cons_zero, List.set_cons_succ]
        refine wpG_takeB (i := 10) (oi := ⟨some 77, _, _, _, _, _⟩) (v := .pointer (some ⟨r, 0, none⟩)) rfl (by kernel_rfl) (by kernel_rfl) (by kernel_rfl) (by decide) (fun _ _ _ h => h) h01 rfl hHeld (Or.inl ⟨by rfl, ?_⟩) ?_
        · (intro W9 hSw; obtain ⟨v1, v2, v3, v4⟩ := hSw; go_simp; (try (first | with_reducible rfl | rfl | (rw [HWR.out]; done))))
        try simp only [Act.put, List.setIfInBounds_toArray, List.set_cons_zero, List.set_cons_succ]
        refine wpG_takeB (i := 11) (oi := ⟨some 78, _, _, _, _, _⟩) (v := .pointer (some ⟨r, 0, none⟩)) rfl (by kernel_rfl) (by kernel_rfl) (by kernel_rfl) (by decide) (fun _ _ _ h => h) h01 rfl hHeld (Or.inl ⟨by rfl, ?_⟩) ?_
        · (intro W9 hSw; obtain ⟨v1, v2, v3, v4⟩ := hSw; go_simp; (try (first | with_reducible rfl | rfl | (rw [HWR.out]; done))))
        try simp only [Act.put, List.setIfInBounds_toArray, List.set_cons_zero, List.set_cons_succ]
        refine wpG_takeB (i := 12) (oi := ⟨some 79, _, _, _, _, _⟩) (v := .pointer (some ⟨r, 0, none⟩)) rfl (by kernel_rfl) (by kernel_rfl) (by kernel_rfl) (by decide) (fun _ _ _ h => h) h01 rfl hHeld (Or.inl ⟨by rfl, ?_⟩) ?_
        · (intro W9 hSw; obtain ⟨v1, v2, v3, v4⟩ := hSw; go_simp; (try (first | with_reducible rfl | rfl | (rw [HWR.out]; done))))
        try simp only [Act.put, List.setIfInBounds_toArray, List.set_cons_zero, List.set_cons_succ]
        refine wpG_takeB (i := 13) (oi := ⟨some 80, _, _, _, _, _⟩) (v := .pointer (some ⟨r, 2, none⟩)) rfl (by kernel_rfl) (by kernel_rfl) (by kernel_rfl) (by decide) (fun _ _ _ h => h) h01 rfl hHeld (Or.inl ⟨by rfl, ?_⟩) ?_
        · (intro W9 hSw; obtain ⟨v1, v2, v3, v4⟩ := hSw; go_simp; (try (first | with_reducible rfl | rfl | (rw [HWR.out]; done))))
        try simp only [Act.put, List.setIfInBounds_toArray, List.set_cons_zero, List.set_cons_succ]
        refine wpG_takeB (i := 14) (oi := ⟨some 81, _, _, _, _, _⟩) (v := .int .i64 c) rfl (by kernel_rfl) (by kernel_rfl) (by kernel_rfl) (by decide) (fun _ _ _ h => h) h01 rfl hHeld (Or.inl ⟨by rfl, ?_⟩) ?_
        · (intro W9 hSw; obtain ⟨v1, v2, v3, v4⟩ := hSw; go_simp; (try (first | with_reducible rfl | rfl | (rw [HWR.out]; done))))
        try simp only [Act.put, List.setIfInBounds_toArray, List.set_cons_zero, List.set_cons_succ]
        refine wpG_oneB (i := 15) (o := ⟨some 82, _, _, _, _, _⟩) (by kernel_rfl) rfl rfl (fun K hK => ?_)
        go_simp
        (with_reducible refine (sum_any c HF.out.c1 HF.out.c2 none 0 0 [] w5.drew (RB.nil _) (by omega)).mono ?_); rintro e w6 ⟨A9, c9, rfl, -, b6⟩
        have HD6 := Lib.hid (HD.out.below (Below.trans (below_drew (Below.refl _ w5)) b6))
        clear b6
        refine hK.out _ _ HD6.out.dl13 (fun hHeld => ?_)
        clear hK K
        try simp only [Act.put, List.setIfInBounds_toArray, List.set_cons_zero, List.set_cons_succ]
        refine wpG_takeB (i := 16) (oi := ⟨some 83, _, _, _, _, _⟩) (v := .int .i64 (tailN c : Int)) rfl (by kernel_rfl) (by kernel_rfl) (by kernel_rfl) (by decide) (fun _ _ _ h => h) h01 rfl hHeld (Or.inl ⟨by rfl, ?_⟩) ?_
        · (intro W9 hSw; obtain ⟨v1, v2, v3, v4⟩ := hSw; go_simp; (try (first | with_reducible rfl | rfl | (rw [HWR.out]; done))))
        try simp only [Act.put, List.setIfInBounds_toArray, List.set_cons_zero, List.set_cons_succ]
        refine wpG_takeB (i := 17) (oi := ⟨some 84, _, _, _, _, _⟩) (v := .int .i64 (m + (tailN c : Int))) rfl (by kernel_rfl) (by kernel_rfl) (by kernel_rfl) (by decide) (fun _ _ _ h => h) h01 rfl hHeld (Or.inl ⟨by rfl, ?_⟩) ?_
        · (intro W9 hSw; obtain ⟨v1, v2, v3, v4⟩ := hSw; go_simp; (try (first | with_reducible rfl | rfl | (rw [HWR.out]; done))))
        try simp only [Act.put, List.setIfInBounds_toArray, List.set_cons_zero, List.set_cons_succ]
        refine wpG_takeB (i := 18) (oi := ⟨some 85, _, _, _, _, _⟩) (v := .bool (decide (m + (tailN c : Int) < (hl : Int)))) rfl (by kernel_rfl) (by kernel_rfl) (by kernel_rfl) (by decide) (fun _ _ _ h => h) h01 rfl hHeld (Or.inl ⟨by rfl, ?_⟩) ?_
        · (intro W9 hSw; obtain ⟨v1, v2, v3, v4⟩ := hSw; go_simp; (try (first | with_reducible rfl | rfl | (rw [HWR.out]; done))))
        try simp only [Act.put, List.setIfInBounds_toArray, List.set_cons_zero, List.set_cons_succ]
        refine wpG_done (by kernel_rfl) ?_ _
        clear hHeld h01
        have HD := HD6
        by_cases hgt : m + (tailN c : Int) < (hl : Int)
        · have q9 : decide (m + (tailN c : Int) < (hl : Int)) = true := by simpa using hgt
          have HP := Lib.hid (show delS m c s 93 = damS { s with esc := false, held := s.held ++ [yy] } 93 5 from by rw [HDP.out]; unfold pushS; rw [if_pos (by rw [← HYY.out, HLE.out]; exact hgt)]; rfl)
          rw [q9]
          clear hgt q9
          have C51 := Lib.hid (damaged2 B r bc br k m c (.slice A4 hl c4) { s with esc := false, held := s.held ++ [yy] } 93 5 w6 HD.out.rd HD.out.hc HD.out.hg)
          go_wp2_with (go_at_call 51; (with_reducible refine C51.out.mono ?_); rintro e w8 ⟨A8, n8, c8, rfl, ho8, v8, hd8⟩; refine Hid.out ?_)
          refine Lib.hid ?_
          have HO8 := Lib.hid ho8
          have HD8 := Lib.hid hd8
          have HX8 := Lib.hid (HD.out.hx.only hd8.only fun e => HD.out.apart e)
          obtain ⟨g0, g1, g2⟩ : w8.cell? ⟨bx, 0, none⟩ = some (.int .i64 0) ∧ w8.cell? ⟨bx, 1, none⟩ = some (.slice none 0 0) ∧ w8.cell? ⟨bx, 2, none⟩ = some (.int .i64 0) := ⟨HX8.out.cell 0, HX8.out.cell 1, HX8.out.cell 2⟩
          have y0 := HX8.out.frozen 0
          have y1 := HX8.out.frozen 1
          have y2 := HX8.out.frozen 2
          clear ho8 hd8
          go_wp2_with fail
          refine bodyPost_ret (v := .tuple #[.agg #[.int .i64 (s.at_ : Int), .slice A8 n8 c8, .int .i64 5], .bool true]) (fr_res rfl rfl rfl (blk_set3 HX8.out)) rfl ?_
          have hne := own_ne HO8.out HX8.out (by decide)
          rw [HP.out]
          exact ⟨⟨A8, n8, c8, rfl, own_base (own_setCell (own_setCell (own_setCell HO8.out hne _) hne _) hne _) HD.out.only.size⟩, v8, HD8.out.rd.box HX8.out, only_set3 (HD.out.only.trans HD8.out.only HD.out.hat.sfo) HD.out.bxs, HD.out.hat.trans HD8.out.hat HD.out.only.size⟩
        · have q9 : decide (m + (tailN c : Int) < (hl : Int)) = false := by simpa using hgt
          have HP := Lib.hid (show delS m c s 93 = ({ s with esc := false, held := s.held ++ [yy] }, none) from by rw [HDP.out]; unfold pushS; rw [if_neg (by rw [← HYY.out, HLE.out]; exact hgt), HYY.out])
          rw [q9]
          clear hgt q9
          obtain ⟨g0, g1, g2⟩ : w6.cell? ⟨bx, 0, none⟩ = some (.int .i64 0) ∧ w6.cell? ⟨bx, 1, none⟩ = some (.slice none 0 0) ∧ w6.cell? ⟨bx, 2, none⟩ = some (.int .i64 0) := ⟨HD.out.hx.cell 0, HD.out.hx.cell 1, HD.out.hx.cell 2⟩
          have y0 := HD.out.hx.frozen 0
          have y1 := HD.out.hx.frozen 1
          have y2 := HD.out.hx.frozen 2
          go_wp2_with fail
          refine bodyPost_ret (v := .tuple #[.agg #[.int .i64 0, .slice none 0 0, .int .i64 0], .bool false]) (fr_res rfl rfl rfl (blk_set3 HD.out.hx)) rfl ?_
          rw [HP.out]
          exact ⟨rfl, _, HD.out.rd.box HD.out.hx, only_set3 HD.out.only HD.out.bxs, HD.out.hat⟩
      · have HP := Lib.hid (show delS m c s x = damS s x 6 by unfold delS; rw [if_pos hE, if_neg (by rintro (e | e); exact h1 e; exact h2 e)])
        have q1 : (xi != 94) = true := by
          rw [← HXI.out]
          simp
          intro e
          exact h1 (UInt8.toNat_inj.1 (by show x.toNat = 94; omega))
        have q2 : (xi != 93) = true := by
          rw [← HXI.out]
          simp
          intro e
          exact h2 (UInt8.toNat_inj.1 (by show x.toNat = 93; omega))
        clear hE h1 h2
        have C51 := Lib.hid (damaged2 B r bc br k m c (.slice A1 s.held.length c1) s x 6 W0 HD.out.rd HD.out.hc HD.out.hg)
        go_wp2_with (go_at_call 51; (with_reducible refine C51.out.mono ?_); rintro e w8 ⟨A8, n8, c8, rfl, ho8, v8, hd8⟩; refine Hid.out ?_)
        refine Lib.hid ?_
        have HO8 := Lib.hid ho8
        have HD8 := Lib.hid hd8
        have HX8 := Lib.hid (HD.out.hx.only hd8.only fun e => HD.out.apart e)
        obtain ⟨g0, g1, g2⟩ : w8.cell? ⟨bx, 0, none⟩ = some (.int .i64 0) ∧ w8.cell? ⟨bx, 1, none⟩ = some (.slice none 0 0) ∧ w8.cell? ⟨bx, 2, none⟩ = some (.int .i64 0) := ⟨HX8.out.cell 0, HX8.out.cell 1, HX8.out.cell 2⟩
        have y0 := HX8.out.frozen 0
        have y1 := HX8.out.frozen 1
        have y2 := HX8.out.frozen 2
        clear ho8 hd8
        go_wp2_with fail
        refine bodyPost_ret (v := .tuple #[.agg #[.int .i64 (s.at_ : Int), .slice A8 n8 c8, .int .i64 6], .bool true]) (fr_res rfl rfl rfl (blk_set3 HX8.out)) rfl ?_
        have hne := own_ne HO8.out HX8.out (by decide)
        rw [HP.out]
        exact ⟨⟨A8, n8, c8, rfl, own_base (own_setCell (own_setCell (own_setCell HO8.out hne _) hne _) hne _) HD.out.only.size⟩, v8, HD8.out.rd.box HX8.out, only_set3 (HD.out.only.trans HD8.out.only HD.out.hat.sfo) HD.out.bxs, HD.out.hat.trans HD8.out.hat HD.out.only.size⟩
  · replace hE : s.esc = false := by simpa using hE
    by_cases h6 : x = 126
    · subst h6
      obtain rfl : xi = 126 := by rw [← HXI.out]; rfl
      rw [hE] at k8
      obtain ⟨fr, hfr⟩ : ∃ fr, openS c s.at_ s.held = fr := ⟨_, rfl⟩
      have HFR := Lib.hid hfr
      have HP := Lib.hid (show delS m c s 126 = (s.ended, some fr) by unfold delS; rw [if_neg (by rw [hE]; decide), if_pos rfl, hfr])
      clear hE hfr
      go_upto_region 9 with fail
      have HGX := Lib.hid (show br ≠ bx from HD.out.hg.ne HD.out.hx (by decide))
      have HS9 := Lib.hid (show DlR br r bc (.slice A1 s.held.length c1) 126 W0.drew from ⟨HD.out.drew.hg.cell 0, HD.out.drew.rd.blk.cell 6, HD.out.drew.hc.cell 0⟩)
      clear kg kc k8 z8
      refine wp_region_G (S0 := (DlR br r bc (.slice A1 s.held.length c1) 126)) (S1 := (DlB br r)) (c := 6) (by kernel_rfl) ?_
      have hHeld := HS9.out
      have h01 := (fun (W : World) (h : (DlR br r bc (.slice A1 s.held.length c1) 126) W) => h.1)
      refine wpG_takeA (i := 0) (oi := ⟨some 50, _, _, _, _, _⟩) (v := .pointer (some ⟨r, 0, none⟩)) rfl (by kernel_rfl) (by kernel_rfl) (by kernel_rfl) (by decide) (fun _ _ _ h => h) h01 rfl hHeld (Or.inl ⟨by rfl, ?_⟩) ?_
      · (intro W9 hSw; have v1 : W9.cell? ⟨br, 0, none⟩ = some (.pointer (some ⟨r, 0, none⟩)) := hSw; go_simp; (try (first | with_reducible rfl | rfl)))
      try simp only [Act.put, List.setIfInBounds_toArray, List.set_cons_zero, List.set_cons_succ]
      refine wpG_take0 (i := 1) (oi := ⟨some 51, _, _, _, _, _⟩) (v := .pointer (some ⟨r, 0, none⟩)) rfl (by kernel_rfl) (by kernel_rfl) (by kernel_rfl) (by decide) (by kernel_rfl) (fun _ _ _ h => h) rfl hHeld (Or.inl ⟨by rfl, ?_⟩) ?_
      · (intro W9 hSw; obtain ⟨v1, v2, v3⟩ := hSw; go_simp; (try (first | with_reducible rfl | rfl)))
      try simp only [Act.put, List.setIfInBounds_toArray, List.set_cons_zero, List.set_cons_succ]
      refine wpG_takeA (i := 2) (oi := ⟨some 52, _, _, _, _, _⟩) (v := .pointer (some ⟨r, 0, none⟩)) rfl (by kernel_rfl) (by kernel_rfl) (by kernel_rfl) (by decide) (fun _ _ _ h => h) h01 rfl hHeld (Or.inl ⟨by rfl, ?_⟩) ?_
      · (intro W9 hSw; have v1 : W9.cell? ⟨br, 0, none⟩ = some (.pointer (some ⟨r, 0, none⟩)) := hSw; go_simp; (try (first | with_reducible rfl | rfl)))
      try simp only [Act.put, List.setIfInBounds_toArray, List.set_cons_zero, List.set_cons_succ]
      refine wpG_takeA (i := 3) (oi := ⟨some 53, _, _, _, _, _⟩) (v := .pointer (some ⟨r, 0, none⟩)) rfl (by kernel_rfl) (by kernel_rfl) (by kernel_rfl) (by decide) (fun _ _ _ h => h) h01 rfl hHeld (Or.inl ⟨by rfl, ?_⟩) ?_
      · (intro W9 hSw; have v1 : W9.cell? ⟨br, 0, none⟩ = some (.pointer (some ⟨r, 0, none⟩)) := hSw; go_simp; (try (first | with_reducible rfl | rfl)))
      try simp only [Act.put, List.setIfInBounds_toArray, List.set_cons_zero, List.set_cons_succ]
      refine wpG_takeA (i := 4) (oi := ⟨some 54, _, _, _, _, _⟩) (v := .pointer (some ⟨r, 6, none⟩)) rfl (by kernel_rfl) (by kernel_rfl) (by kernel_rfl) (by decide) (fun _ _ _ h => h) h01 rfl hHeld (Or.inl ⟨by rfl, ?_⟩) ?_
      · (intro W9 hSw; have v1 : W9.cell? ⟨br, 0, none⟩ = some (.pointer (some ⟨r, 0, none⟩)) := hSw; go_simp; (try (first | with_reducible rfl | rfl)))
      try simp only [Act.put, List.setIfInBounds_toArray, List.set_cons_zero, List.set_cons_succ]
      refine wpG_take0 (i := 5) (oi := ⟨some 55, _, _, _, _, _⟩) (v := .slice A1 s.held.length c1) rfl (by kernel_rfl) (by kernel_rfl) (by kernel_rfl) (by decide) (by kernel_rfl) (fun _ _ _ h => h) rfl hHeld (Or.inl ⟨by rfl, ?_⟩) ?_
      · (intro W9 hSw; obtain ⟨v1, v2, v3⟩ := hSw; go_simp; (try (first | with_reducible rfl | rfl)))
      try simp only [Act.put, List.setIfInBounds_toArray, List.set_cons_zero, List.set_cons_succ]
      refine wpG_oneB (i := 6) (o := ⟨some 56, _, _, _, _, _⟩) (by kernel_rfl) rfl rfl (fun K hK => ?_)
      go_simp
      (with_reducible refine (opened_any r c s.at_ HF.out.c1 HF.out.c2 A1 s.held.length c1 s.held W0.drew HD.out.drew.rd.rdc (own_RB3 HD.out.drew.rd.own) (by have := HL.out; omega)).mono ?_); rintro e w6 ⟨A7, n7, c7, rfl, ho7, b6⟩
      rw [HFR.out] at ho7 ⊢
      have HO7 := Lib.hid ho7
      have HD6 := Lib.hid (HD.out.drew.below b6)
      clear ho7 b6
      refine hK.out _ _ (HD6.out.hg.cell 0) (fun hHeld => ?_)
      clear hK K
      try simp only [Act.put, List.setIfInBounds_toArray, List.set_cons_zero, List.set_cons_succ]
      refine wpG_oneB (i := 7) (o := ⟨some 57, _, _, _, _, _⟩) (by kernel_rfl) rfl rfl (fun K hK => ?_)
      go_simp
      (with_reducible refine (ended_any B r k m c _ _ fr.at_ fr.code A7 n7 c7 w6 HD6.out.rd).mono ?_); rintro e w8 ⟨rfl, h8, o8⟩
      have H8 := Lib.hid h8
      have O8 := Lib.hid (o8.mono (q := SFo r (.slice A1 s.held.length c1)) fun b _ e => .inl e)
      have HO8 := Lib.hid (own_only HO7.out o8 fun q hq e => own_ne HO7.out HD6.out.rd.blk (by decide) (e ▸ hq))
      have HX8 := Lib.hid (HD6.out.hx.only O8.out fun e => HD6.out.apart e)
      have HG8 := Lib.hid (HD6.out.hg.only O8.out (p := SFo r (.slice A1 s.held.length c1)) fun e => HD6.out.apart2 e)
      clear h8 o8
      refine hK.out _ _ (HG8.out.cell 0) (fun hHeld => ?_)
      clear hK K
      try simp only [Act.put, List.setIfInBounds_toArray, List.set_cons_zero, List.set_cons_succ]
      refine wpG_takeB (i := 8) (oi := ⟨some 58, _, _, _, _, _⟩) (v := .agg #[.int .i64 (fr.at_ : Int), .slice A7 n7 c7, .int .i64 fr.code]) rfl (by kernel_rfl) (by kernel_rfl) (by kernel_rfl) (by decide) (fun _ _ _ h => h) h01 rfl hHeld (Or.inl ⟨by rfl, ?_⟩) ?_
      · (intro W9 hSw; have v1 : W9.cell? ⟨br, 0, none⟩ = some (.pointer (some ⟨r, 0, none⟩)) := hSw; go_simp; (try (first | with_reducible rfl | rfl)))
      try simp only [Act.put, List.setIfInBounds_toArray, List.set_cons_zero, List.set_cons_succ]
      refine wpG_takeB (i := 9) (oi := ⟨some 59, _, _, _, _, _⟩) (v := .bool true) rfl (by kernel_rfl) (by kernel_rfl) (by kernel_rfl) (by decide) (fun _ _ _ h => h) h01 rfl hHeld (Or.inl ⟨by rfl, ?_⟩) ?_
      · (intro W9 hSw; have v1 : W9.cell? ⟨br, 0, none⟩ = some (.pointer (some ⟨r, 0, none⟩)) := hSw; go_simp; (try (first | with_reducible rfl | rfl)))
      try simp only [Act.put, List.setIfInBounds_toArray, List.set_cons_zero, List.set_cons_succ]
      refine wpG_oneB (i := 10) (o := ⟨none, _, _, _, _, _⟩) (by kernel_rfl) rfl rfl (fun K hK => ?_)
      obtain ⟨g0, g1, g2⟩ : w8.cell? ⟨bx, 0, none⟩ = some (.int .i64 0) ∧ w8.cell? ⟨bx, 1, none⟩ = some (.slice none 0 0) ∧ w8.cell? ⟨bx, 2, none⟩ = some (.int .i64 0) := ⟨HX8.out.cell 0, HX8.out.cell 1, HX8.out.cell 2⟩
      have y0 := HX8.out.frozen 0
      have y1 := HX8.out.frozen 1
      have y2 := HX8.out.frozen 2
      go_simp
      refine hK.out _ _ (((HG8.out.far (p := ⟨bx, 0, none⟩) HGX.out _).far (p := ⟨bx, 1, none⟩) HGX.out _).far (p := ⟨bx, 2, none⟩) HGX.out _ |>.cell 0) (fun hHeld => ?_)
      clear hK K
      try simp only [Act.put, List.setIfInBounds_toArray, List.set_cons_zero, List.set_cons_succ]
      refine wpG_takeB (i := 11) (oi := ⟨some 5, _, _, _, _, _⟩) (v := .bool true) rfl (by kernel_rfl) (by kernel_rfl) (by kernel_rfl) (by decide) (fun _ _ _ h => h) h01 rfl hHeld (Or.inl ⟨by rfl, ?_⟩) ?_
      · (intro W9 hSw; have v1 : W9.cell? ⟨br, 0, none⟩ = some (.pointer (some ⟨r, 0, none⟩)) := hSw; go_simp; (try (first | with_reducible rfl | rfl)))
      try simp only [Act.put, List.setIfInBounds_toArray, List.set_cons_zero, List.set_cons_succ]
      refine wpG_done (by kernel_rfl) ?_ _
      clear hHeld h01
      go_wp2_with fail
      refine bodyPost_ret (v := .tuple #[.agg #[.int .i64 (fr.at_ : Int), .slice A7 n7 c7, .int .i64 fr.code], .bool true]) (fr_res rfl rfl rfl (blk_set3 HX8.out)) rfl ?_
      have hne := own_ne HO8.out HX8.out (by decide)
      rw [HP.out]
      exact ⟨⟨A7, n7, c7, rfl, own_base (own_setCell (own_setCell (own_setCell HO8.out hne _) hne _) hne _) HD.out.drew.only.size⟩, .slice none 0 0, H8.out.box HX8.out, only_set3 (HD6.out.only.trans O8.out HD6.out.hat.sfo) HD.out.bxs, .inr fun _ e => by cases e⟩
    · by_cases h5 : x = 125
      · subst h5
        obtain rfl : xi = 125 := by rw [← HXI.out]; rfl
        rw [hE] at k8
        have HP := Lib.hid (show delS m c s 125 = ({ s with esc := true }, none) by unfold delS; rw [if_neg (by rw [hE]; decide), if_neg (by decide), if_pos rfl])
        clear hE
        go_upto_region 12 with fail
        obtain ⟨w2, hw2⟩ : ∃ w2, W0.setCell ⟨r, 8, none⟩ (.bool true) = w2 := ⟨_, rfl⟩
        have HD := Lib.hid (show DlS w w2 B r k m c (.slice A1 s.held.length c1) (.slice A1 s.held.length c1) { s with esc := true } br bc bx 125 from hw2 ▸ HD0.out.set_ 8 _ (HD0.out.rd.set_esc true))
        rw [hw2]
        clear hw2 kg kc k8 z8
        obtain ⟨g0, g1, g2⟩ : w2.cell? ⟨bx, 0, none⟩ = some (.int .i64 0) ∧ w2.cell? ⟨bx, 1, none⟩ = some (.slice none 0 0) ∧ w2.cell? ⟨bx, 2, none⟩ = some (.int .i64 0) := ⟨HD.out.hx.cell 0, HD.out.hx.cell 1, HD.out.hx.cell 2⟩
        have y0 := HD.out.hx.frozen 0
        have y1 := HD.out.hx.frozen 1
        have y2 := HD.out.hx.frozen 2
        go_wp2_with fail
        refine bodyPost_ret (v := .tuple #[.agg #[.int .i64 0, .slice none 0 0, .int .i64 0], .bool false]) (fr_res rfl rfl rfl (blk_set3 HD.out.hx)) rfl ?_
        rw [HP.out]
        exact ⟨rfl, _, HD.out.rd.box HD.out.hx, only_set3 HD.out.only HD.out.bxs, HD.out.hat⟩
      · have HDP := Lib.hid (show delS m c s x = pushS m c s x x by unfold delS; rw [if_neg (by rw [hE]; decide), if_neg h6, if_neg h5])
        have HE := Lib.hid hE
        have H6 := Lib.hid h6
        obtain ⟨yy, hyy⟩ : ∃ yy : UInt8, yy = x := ⟨_, rfl⟩
        have HYY := Lib.hid hyy
        have HYU := Lib.hid (show [Value.int .u8 xi] = [yy].map Go.Proofs.Ytibkhjpjneoabaa.u8 by rw [hyy, ← HXI.out]; rfl)
        have HCX := Lib.hid (show ∀ W : World, Blk W bc 5 #[Go.Proofs.Ytibkhjpjneoabaa.u8 x] → W.cell? ⟨bc, 0, none⟩ = some (.int .u8 xi) from fun W h => by rw [← HXI.out]; exact h.cell 0)
        have q6 : (xi == 126) = false := by
          rw [← HXI.out]
          simp
          intro e
          exact h6 (UInt8.toNat_inj.1 (by show x.toNat = 126; omega))
        have q5 : (xi == 125) = false := by
          rw [← HXI.out]
          simp
          intro e
          exact h5 (UInt8.toNat_inj.1 (by show x.toNat = 125; omega))
        rw [hE] at k8
        clear hE hyy h6 h5
        go_upto_region 2 with fail
        have HS7 := Lib.hid (show DlR br r bc (.slice A1 s.held.length c1) xi W0.drew from ⟨HD.out.drew.hg.cell 0, HD.out.drew.rd.blk.cell 6, HCX.out _ HD.out.drew.hc⟩)
        clear kg kc k8 z8 q6 q5
        refine wp_region_G (S0 := (DlR br r bc (.slice A1 s.held.length c1) xi)) (S1 := (fun _ => True)) (c := 10) (by kernel_rfl) ?_
        have hHeld := HS7.out
        have h01 := (fun (W : World) (h : (DlR br r bc (.slice A1 s.held.length c1) xi) W) => trivial)
        refine wpG_take0 (i := 0) (oi := ⟨some 8, _, _, _, _, _⟩) (v := .pointer (some ⟨r, 0, none⟩)) rfl (by kernel_rfl) (by kernel_rfl) (by kernel_rfl) (by decide) (by kernel_rfl) (fun _ _ _ h => h) rfl hHeld (Or.inl ⟨by rfl, ?_⟩) ?_
        · (intro W9 hSw; obtain ⟨v1, v2, v3⟩ := hSw; go_simp; (try (first | with_reducible rfl | rfl)))
        try simp only [Act.put, List.setIfInBounds_toArray, List.set_cons_zero, List.set_cons_succ]
        refine wpG_take0 (i := 1) (oi := ⟨some 9, _, _, _, _, _⟩) (v := .pointer (some ⟨r, 0, none⟩)) rfl (by kernel_rfl) (by kernel_rfl) (by kernel_rfl) (by decide) (by kernel_rfl) (fun _ _ _ h => h) rfl hHeld (Or.inl ⟨by rfl, ?_⟩) ?_
        · (intro W9 hSw; obtain ⟨v1, v2, v3⟩ := hSw; go_simp; (try (first | with_reducible rfl | rfl)))
        try simp only [Act.put, List.setIfInBounds_toArray, List.set_cons_zero, List.set_cons_succ]
        refine wpG_take0 (i := 2) (oi := ⟨some 10, _, _, _, _, _⟩) (v := .pointer (some ⟨r, 0, none⟩)) rfl (by kernel_rfl) (by kernel_rfl) (by kernel_rfl) (by decide) (by kernel_rfl) (fun _ _ _ h => h) rfl hHeld (Or.inl ⟨by rfl, ?_⟩) ?_
        · (intro W9 hSw; obtain ⟨v1, v2, v3⟩ := hSw; go_simp; (try (first | with_reducible rfl | rfl)))
        try simp only [Act.put, List.setIfInBounds_toArray, List.set_cons_zero, List.set_cons_succ]
        refine wpG_take0 (i := 3) (oi := ⟨some 11, _, _, _, _, _⟩) (v := .pointer (some ⟨r, 6, none⟩)) rfl (by kernel_rfl) (by kernel_rfl) (by kernel_rfl) (by decide) (by kernel_rfl) (fun _ _ _ h => h) rfl hHeld (Or.inl ⟨by rfl, ?_⟩) ?_
        · (intro W9 hSw; obtain ⟨v1, v2, v3⟩ := hSw; go_simp; (try (first | with_reducible rfl | rfl)))
        try simp only [Act.put, List.setIfInBounds_toArray, List.set_cons_zero, List.set_cons_succ]
        refine wpG_take0 (i := 4) (oi := ⟨some 12, _, _, _, _, _⟩) (v := .slice A1 s.held.length c1) rfl (by kernel_rfl) (by kernel_rfl) (by kernel_rfl) (by decide) (by kernel_rfl) (fun _ _ _ h => h) rfl hHeld (Or.inl ⟨by rfl, ?_⟩) ?_
        · (intro W9 hSw; obtain ⟨v1, v2, v3⟩ := hSw; go_simp; (try (first | with_reducible rfl | rfl)))
        try simp only [Act.put, List.setIfInBounds_toArray, List.set_cons_zero, List.set_cons_succ]
        refine wpG_take0 (i := 5) (oi := ⟨some 13, _, _, _, _, _⟩) (v := .int .u8 xi) rfl (by kernel_rfl) (by kernel_rfl) (by kernel_rfl) (by decide) (by kernel_rfl) (fun _ _ _ h => h) rfl hHeld (Or.inl ⟨by rfl, ?_⟩) ?_
        · (intro W9 hSw; obtain ⟨v1, v2, v3⟩ := hSw; go_simp; (try (first | with_reducible rfl | rfl)))
        try simp only [Act.put, List.setIfInBounds_toArray, List.set_cons_zero, List.set_cons_succ]
        refine wpG_oneA (i := 6) (o := ⟨some 14, _, _, _, _, _⟩) (by kernel_rfl) rfl rfl (fun K hK => ?_)
        go_simp
        have hcw := HCX.out _ (HD.out.hc.drew.alloc (.cells #[.int .u8 xi] 5))
        refine hK.out _ _ ⟨(HD.out.hg.drew.alloc _).cell 0, (HD.out.rd.blk.drew.alloc _).cell 6, hcw⟩ (fun hHeld => ?_)
        clear hK K
        try simp only [Act.put, List.setIfInBounds_toArray, List.set_cons_zero, List.set_cons_succ]
        refine wpG_oneA (i := 7) (o := ⟨some 15, _, _, _, _, _⟩) (by kernel_rfl) rfl rfl (fun K hK => ?_)
        refine step_app_own (base := B) (n := s.held.length) (m := 1) (xs := s.held.map Go.Proofs.Ytibkhjpjneoabaa.u8) (news := [.int .u8 xi]) rfl (.tmp 12) (.tmp 14) 28 rfl el22 rfl (own_drew (own_alloc HD.out.rd.own)) rfl (Holds.one _ _ _) (by simp [Value.oneCell']) (by have := HL.out; unfold maxLen; omega) (by have := HL.out; omega) (by have := HD.out.rd.base; simp; omega) ?_
        intro v4 w4 hown hg hat
        rw [HYU.out] at hown
        obtain ⟨A4, c4, rfl, -⟩ := own_form hown
        replace hg : (W0.drew.alloc (.cells #[.int .u8 xi] 5)).grownBy w4 (Value.slice A1 s.held.length c1).ownBlock := hg
        have HPU := Lib.hid (HD.out.drew.push (ys := [yy]) hown hg hat)
        have HCL := Lib.hid (HCX.out _ ((HD.out.drew.hc.alloc _).grown hg (fun e => HD.out.cne e.symm)))
        have HBL := Lib.hid ((HD.out.drew.rd.blk.alloc _).grown hg (by have := HD.out.rd.ne; intro e; exact this e.symm))
        have HGL := Lib.hid ((HD.out.hg.drew.alloc _).grown hg (fun e => own_ne HD.out.rd.own HD.out.hg (by decide) e.symm))
        clear hown hg hat
        refine hK.out _ _ ⟨HGL.out.cell 0, HBL.out.cell 6, HCL.out⟩ (fun hHeld => ?_)
        clear hK K
        try simp only [Act.put, List.setIfInBounds_toArray, List.set_cons_zero, List.set_cons_succ]
        refine wpG_takeA (i := 8) (oi := ⟨some 16, _, _, _, _, _⟩) (v := .pointer (some ⟨r, 0, none⟩)) rfl (by kernel_rfl) (by kernel_rfl) (by kernel_rfl) (by decide) (fun _ _ _ h => h) h01 rfl hHeld (Or.inl ⟨by rfl, ?_⟩) ?_
        · (intro W9 hSw; go_simp; (try (first | with_reducible rfl | rfl)))
        try simp only [Act.put, List.setIfInBounds_toArray, List.set_cons_zero, List.set_cons_succ]
        refine wpG_takeA (i := 9) (oi := ⟨some 17, _, _, _, _, _⟩) (v := .pointer (some ⟨r, 6, none⟩)) rfl (by kernel_rfl) (by kernel_rfl) (by kernel_rfl) (by decide) (fun _ _ _ h => h) h01 rfl hHeld (Or.inl ⟨by rfl, ?_⟩) ?_
        · (intro W9 hSw; go_simp; (try (first | with_reducible rfl | rfl)))
        try simp only [Act.put, List.setIfInBounds_toArray, List.set_cons_zero, List.set_cons_succ]
        refine wpG_oneB (i := 10) (o := ⟨none, _, _, _, _, _⟩) (by kernel_rfl) rfl rfl (fun K hK => ?_)
        have kq := HBL.out.cell 6
        have zq := HBL.out.frozen 6
        simp only [List.getElem?_toArray, List.getElem?_cons_zero, List.getElem?_cons_succ] at kq
        go_simp
        refine hK.out _ _ trivial (fun hHeld => ?_)
        clear hK K
        try simp only [Act.put, List.setIfInBounds_toArray, List.set_cons_zero, List.set_cons_succ]
        refine wpG_done (by kernel_rfl) ?_ _
        clear hHeld h01
        obtain ⟨w5, hw5⟩ : ∃ w5, w4.setCell ⟨r, 6, none⟩ (.slice A4 (s.held.length + 1) c4) = w5 := ⟨_, rfl⟩
        have hdn := HPU.out
        rw [hw5] at hdn
        rw [hw5]
        obtain ⟨hl, hhl⟩ : ∃ hl, s.held.length + 1 = hl := ⟨_, rfl⟩
        rw [hhl] at hdn
        rw [hhl]
        have HHL := Lib.hid hhl
        have HLE := Lib.hid (show (s.held ++ [yy]).length = hl by rw [← hhl]; simp)
        have HD := Lib.hid hdn
        have HS13 := Lib.hid (HD.out.drew.dl13)
        have HWR := Lib.hid (wrap_mt m c HF.out)
        have HL40 := Lib.hid (show (hl : Int) ≤ 40001 by have := HL.out; omega)
        clear hw5 hdn hhl HPU HCL HGL HBL
        go_upto_region 13 with fail
        refine wp_region_G (S0 := (Dl13 br r m c A4 hl c4)) (S1 := (Dl13 br r m c A4 hl c4)) (c := 99) (by kernel_rfl) ?_
        have hHeld := HS13.out
        have h01 := (fun (W : World) (h : (Dl13 br r m c A4 hl c4) W) => h)
        refine wpG_takeB (i := 0) (oi := ⟨some 67, _, _, _, _, _⟩) (v := .pointer (some ⟨r, 0, none⟩)) rfl (by kernel_rfl) (by kernel_rfl) (by kernel_rfl) (by decide) (fun _ _ _ h => h) h01 rfl hHeld (Or.inl ⟨by rfl, ?_⟩) ?_
        · (intro W9 hSw; obtain ⟨v1, v2, v3, v4⟩ := hSw; go_simp; (try (first | with_reducible rfl | rfl | (rw [HWR.out]; done))))
        try simp only [Act.put, List.setIfInBounds_toArray, List.set_cons_zero, List.set_cons_succ]
        refine wpG_takeB (i := 1) (oi := ⟨some 68, _, _, _, _, _⟩) (v := .pointer (some ⟨r, 0, none⟩)) rfl (by kernel_rfl) (by kernel_rfl) (by kernel_rfl) (by decide) (fun _ _ _ h => h) h01 rfl hHeld (Or.inl ⟨by rfl, ?_⟩) ?_
        · (intro W9 hSw; obtain ⟨v1, v2, v3, v4⟩ := hSw; go_simp; (try (first | with_reducible rfl | rfl | (rw [HWR.out]; done))))
        try simp only [Act.put, List.setIfInBounds_toArray, List.set_cons_zero, List.set_cons_succ]
        refine wpG_takeB (i := 2) (oi := ⟨some 69, _, _, _, _, _⟩) (v := .pointer (some ⟨r, 6, none⟩)) rfl (by kernel_rfl) (by kernel_rfl) (by kernel_rfl) (by decide) (fun _ _ _ h => h) h01 rfl hHeld (Or.inl ⟨by rfl, ?_⟩) ?_
        · (intro W9 hSw; obtain ⟨v1, v2, v3, v4⟩ := hSw; go_simp; (try (first | with_reducible rfl | rfl | (rw [HWR.out]; done))))
        try simp only [Act.put, List.setIfInBounds_toArray, List.set_cons_zero, List.set_cons_succ]
        refine wpG_takeB (i := 3) (oi := ⟨some 70, _, _, _, _, _⟩) (v := .slice A4 hl c4) rfl (by kernel_rfl) (by kernel_rfl) (by kernel_rfl) (by decide) (fun _ _ _ h => h) h01 rfl hHeld (Or.inl ⟨by rfl, ?_⟩) ?_
        · (intro W9 hSw; obtain ⟨v1, v2, v3, v4⟩ := hSw; go_simp; (try (first | with_reducible rfl | rfl | (rw [HWR.out]; done))))
        try simp only [Act.put, List.setIfInBounds_toArray, List.set_cons_zero, List.set_cons_succ]
        refine wpG_takeB (i := 4) (oi := ⟨some 71, _, _, _, _, _⟩) (v := .int .i64 (hl : Int)) rfl (by kernel_rfl) (by kernel_rfl) (by kernel_rfl) (by decide) (fun _ _ _ h => h) h01 rfl hHeld (Or.inl ⟨by rfl, ?_⟩) ?_
        · (intro W9 hSw; obtain ⟨v1, v2, v3, v4⟩ := hSw; go_simp; (try (first | with_reducible rfl | rfl | (rw [HWR.out]; done))))
        try simp only [Act.put, List.setIfInBounds_toArray, List.set_cons_zero, List.set_cons_succ]
        refine wpG_takeB (i := 5) (oi := ⟨some 72, _, _, _, _, _⟩) (v := .pointer (some ⟨r, 0, none⟩)) rfl (by kernel_rfl) (by kernel_rfl) (by kernel_rfl) (by decide) (fun _ _ _ h => h) h01 rfl hHeld (Or.inl ⟨by rfl, ?_⟩) ?_
        · (intro W9 hSw; obtain ⟨v1, v2, v3, v4⟩ := hSw; go_simp; (try (first | with_reducible rfl | rfl | (rw [HWR.out]; done))))
        try simp only [Act.put, List.setIfInBounds_toArray, List.set_cons_zero, List.set_cons_succ]
        refine wpG_takeB (i := 6) (oi := ⟨some 73, _, _, _, _, _⟩) (v := .pointer (some ⟨r, 0, none⟩)) rfl (by kernel_rfl) (by kernel_rfl) (by kernel_rfl) (by decide) (fun _ _ _ h => h) h01 rfl hHeld (Or.inl ⟨by rfl, ?_⟩) ?_
        · (intro W9 hSw; obtain ⟨v1, v2, v3, v4⟩ := hSw; go_simp; (try (first | with_reducible rfl | rfl | (rw [HWR.out]; done))))
        try simp only [Act.put, List.setIfInBounds_toArray, List.set_cons_zero, List.set_cons_succ]
        refine wpG_takeB (i := 7) (oi := ⟨some 74, _, _, _, _, _⟩) (v := .pointer (some ⟨r, 0, none⟩)) rfl (by kernel_rfl) (by kernel_rfl) (by kernel_rfl) (by decide) (fun _ _ _ h => h) h01 rfl hHeld (Or.inl ⟨by rfl, ?_⟩) ?_
        · (intro W9 hSw; obtain ⟨v1, v2, v3, v4⟩ := hSw; go_simp; (try (first | with_reducible rfl | rfl | (rw [HWR.out]; done))))
        try simp only [Act.put, List.setIfInBounds_toArray, List.set_cons_zero, List.set_cons_succ]
        refine wpG_takeB (i := 8) (oi := ⟨some 75, _, _, _, _, _⟩) (v := .pointer (some ⟨r, 1, none⟩)) rfl (by kernel_rfl) (by kernel_rfl) (by kernel_rfl) (by decide) (fun _ _ _ h => h) h01 rfl hHeld (Or.inl ⟨by rfl, ?_⟩) ?_
        · (intro W9 hSw; obtain ⟨v1, v2, v3, v4⟩ := hSw; go_simp; (try (first | with_reducible rfl | rfl | (rw [HWR.out]; done))))
        try simp only [Act.put, List.setIfInBounds_toArray, List.set_cons_zero, List.set_cons_succ]
        refine wpG_takeB (i := 9) (oi := ⟨some 76, _, _, _, _, _⟩) (v := .int .i64 m) rfl (by kernel_rfl) (by kernel_rfl) (by kernel_rfl) (by decide) (fun _ _ _ h => h) h01 rfl hHeld (Or.inl ⟨by rfl, ?_⟩) ?_
        · (intro W9 hSw; obtain ⟨v1, v2, v3, v4⟩ := hSw; go_simp; (try (first | with_reducible rfl | rfl | (rw [HWR.out]; done))))
        try simp only [Act.put, List.setIfInBounds_toArray, List.set_cons_zero, List.set_cons_succ]
        refine wpG_takeB (i := 10) (oi := ⟨some 77, _, _, _, _, _⟩) (v := .pointer (some ⟨r, 0, none⟩)) rfl (by kernel_rfl) (by kernel_rfl) (by kernel_rfl) (by decide) (fun _ _ _ h => h) h01 rfl hHeld (Or.inl ⟨by rfl, ?_⟩) ?_
        · (intro W9 hSw; obtain ⟨v1, v2, v3, v4⟩ := hSw; go_simp; (try (first | with_reducible rfl | rfl | (rw [HWR.out]; done))))
        try simp only [Act.put, List.setIfInBounds_toArray, List.set_cons_zero, List.set_cons_succ]
        refine wpG_takeB (i := 11) (oi := ⟨some 78, _, _, _, _, _⟩) (v := .pointer (some ⟨r, 0, none⟩)) rfl (by kernel_rfl) (by kernel_rfl) (by kernel_rfl) (by decide) (fun _ _ _ h => h) h01 rfl hHeld (Or.inl ⟨by rfl, ?_⟩) ?_
        · (intro W9 hSw; obtain ⟨v1, v2, v3, v4⟩ := hSw; go_simp; (try (first | with_reducible rfl | rfl | (rw [HWR.out]; done))))
        try simp only [Act.put, List.setIfInBounds_toArray, List.set_cons_zero, List.set_cons_succ]
        refine wpG_takeB (i := 12) (oi := ⟨some 79, _, _, _, _, _⟩) (v := .pointer (some ⟨r, 0, none⟩)) rfl (by kernel_rfl) (by kernel_rfl) (by kernel_rfl) (by decide) (fun _ _ _ h => h) h01 rfl hHeld (Or.inl ⟨by rfl, ?_⟩) ?_
        · (intro W9 hSw; obtain ⟨v1, v2, v3, v4⟩ := hSw; go_simp; (try (first | with_reducible rfl | rfl | (rw [HWR.out]; done))))
        try simp only [Act.put, List.setIfInBounds_toArray, List.set_cons_zero, List.set_cons_succ]
        refine wpG_takeB (i := 13) (oi := ⟨some 80, _, _, _, _, _⟩) (v := .pointer (some ⟨r, 2, none⟩)) rfl (by kernel_rfl) (by kernel_rfl) (by kernel_rfl) (by decide) (fun _ _ _ h => h) h01 rfl hHeld (Or.inl ⟨by rfl, ?_⟩) ?_
        · (intro W9 hSw; obtain ⟨v1, v2, v3, v4⟩ := hSw; go_simp; (try (first | with_reducible rfl | rfl | (rw [HWR.out]; done))))
        try simp only [Act.put, List.setIfInBounds_toArray, List.set_cons_zero, List.set_cons_succ]
        refine wpG_takeB (i := 14) (oi := ⟨some 81, _, _, _, _, _⟩) (v := .int .i64 c) rfl (by kernel_rfl) (by kernel_rfl) (by kernel_rfl) (by decide) (fun _ _ _ h => h) h01 rfl hHeld (Or.inl ⟨by rfl, ?_⟩) ?_
        · (intro W9 hSw; obtain ⟨v1, v2, v3, v4⟩ := hSw; go_simp; (try (first | with_reducible rfl | rfl | (rw [HWR.out]; done))))
        try simp only [Act.put, List.setIfInBounds_toArray, List.set_cons_zero, List.set_cons_succ]
        refine wpG_oneB (i := 15) (o := ⟨some 82, _, _, _, _, _⟩) (by kernel_rfl) rfl rfl (fun K hK => ?_)
        go_simp
        (with_reducible refine (sum_any c HF.out.c1 HF.out.c2 none 0 0 [] w5.drew (RB.nil _) (by omega)).mono ?_); rintro e w6 ⟨A9, c9, rfl, -, b6⟩
        have HD6 := Lib.hid (HD.out.below (Below.trans (below_drew (Below.refl _ w5)) b6))
        clear b6
        refine hK.out _ _ HD6.out.dl13 (fun hHeld => ?_)
        clear hK K
        try simp only [Act.put, List.setIfInBounds_toArray, List.set_cons_zero, List.set_cons_succ]
        refine wpG_takeB (i := 16) (oi := ⟨some 83, _, _, _, _, _⟩) (v := .int .i64 (tailN c : Int)) rfl (by kernel_rfl) (by kernel_rfl) (by kernel_rfl) (by decide) (fun _ _ _ h => h) h01 rfl hHeld (Or.inl ⟨by rfl, ?_⟩) ?_
        · (intro W9 hSw; obtain ⟨v1, v2, v3, v4⟩ := hSw; go_simp; (try (first | with_reducible rfl | rfl | (rw [HWR.out]; done))))
        try simp only [Act.put, List.setIfInBounds_toArray, List.set_cons_zero, List.set_cons_succ]
        refine wpG_takeB (i := 17) (oi := ⟨some 84, _, _, _, _, _⟩) (v := .int .i64 (m + (tailN c : Int))) rfl (by kernel_rfl) (by kernel_rfl) (by kernel_rfl) (by decide) (fun _ _ _ h => h) h01 rfl hHeld (Or.inl ⟨by rfl, ?_⟩) ?_
        · (intro W9 hSw; obtain ⟨v1, v2, v3, v4⟩ := hSw; go_simp; (try (first | with_reducible rfl | rfl | (rw [HWR.out]; done))))
        try simp only [Act.put, List.setIfInBounds_toArray, List.set_cons_zero, List.set_cons_succ]
        refine wpG_takeB (i := 18) (oi := ⟨some 85, _, _, _, _, _⟩) (v := .bool (decide (m + (tailN c : Int) < (hl : Int)))) rfl (by kernel_rfl) (by kernel_rfl) (by kernel_rfl) (by decide) (fun _ _ _ h => h) h01 rfl hHeld (Or.inl ⟨by rfl, ?_⟩) ?_
        · (intro W9 hSw; obtain ⟨v1, v2, v3, v4⟩ := hSw; go_simp; (try (first | with_reducible rfl | rfl | (rw [HWR.out]; done))))
        try simp only [Act.put, List.setIfInBounds_toArray, List.set_cons_zero, List.set_cons_succ]
        refine wpG_done (by kernel_rfl) ?_ _
        clear hHeld h01
        have HD := HD6
        by_cases hgt : m + (tailN c : Int) < (hl : Int)
        · have q9 : decide (m + (tailN c : Int) < (hl : Int)) = true := by simpa using hgt
          have HP := Lib.hid (show delS m c s x = damS { s with held := s.held ++ [yy] } x 5 from by rw [HDP.out]; unfold pushS; rw [if_pos (by rw [← HYY.out, HLE.out] ; exact hgt)]; unfold damS; rw [if_neg H6.out, if_neg H6.out]; rfl)
          rw [q9]
          clear hgt q9
          have C51 := Lib.hid (damaged2 B r bc br k m c (.slice A4 hl c4) { s with held := s.held ++ [yy] } x 5 w6 HD.out.rd HD.out.hc HD.out.hg)
          go_wp2_with (go_at_call 51; (with_reducible refine C51.out.mono ?_); rintro e w8 ⟨A8, n8, c8, rfl, ho8, v8, hd8⟩; refine Hid.out ?_)
          refine Lib.hid ?_
          have HO8 := Lib.hid ho8
          have HD8 := Lib.hid hd8
          have HX8 := Lib.hid (HD.out.hx.only hd8.only fun e => HD.out.apart e)
          obtain ⟨g0, g1, g2⟩ : w8.cell? ⟨bx, 0, none⟩ = some (.int .i64 0) ∧ w8.cell? ⟨bx, 1, none⟩ = some (.slice none 0 0) ∧ w8.cell? ⟨bx, 2, none⟩ = some (.int .i64 0) := ⟨HX8.out.cell 0, HX8.out.cell 1, HX8.out.cell 2⟩
          have y0 := HX8.out.frozen 0
          have y1 := HX8.out.frozen 1
          have y2 := HX8.out.frozen 2
          clear ho8 hd8
          go_wp2_with fail
          refine bodyPost_ret (v := .tuple #[.agg #[.int .i64 (s.at_ : Int), .slice A8 n8 c8, .int .i64 5], .bool true]) (fr_res rfl rfl rfl (blk_set3 HX8.out)) rfl ?_
          have hne := own_ne HO8.out HX8.out (by decide)
          rw [HP.out]
          exact ⟨⟨A8, n8, c8, rfl, own_base (own_setCell (own_setCell (own_setCell HO8.out hne _) hne _) hne _) HD.out.only.size⟩, v8, HD8.out.rd.box HX8.out, only_set3 (HD.out.only.trans HD8.out.only HD.out.hat.sfo) HD.out.bxs, HD.out.hat.trans HD8.out.hat HD.out.only.size⟩
        · have q9 : decide (m + (tailN c : Int) < (hl : Int)) = false := by simpa using hgt
          have HP := Lib.hid (show delS m c s x = ({ s with held := s.held ++ [yy] }, none) from by rw [HDP.out]; unfold pushS; rw [if_neg (by rw [← HYY.out, HLE.out]; exact hgt), HYY.out]; rw [← HE.out])
          rw [q9]
          clear hgt q9
          obtain ⟨g0, g1, g2⟩ : w6.cell? ⟨bx, 0, none⟩ = some (.int .i64 0) ∧ w6.cell? ⟨bx, 1, none⟩ = some (.slice none 0 0) ∧ w6.cell? ⟨bx, 2, none⟩ = some (.int .i64 0) := ⟨HD.out.hx.cell 0, HD.out.hx.cell 1, HD.out.hx.cell 2⟩
          have y0 := HD.out.hx.frozen 0
          have y1 := HD.out.hx.frozen 1
          have y2 := HD.out.hx.frozen 2
          go_wp2_with fail
          refine bodyPost_ret (v := .tuple #[.agg #[.int .i64 0, .slice none 0 0, .int .i64 0], .bool false]) (fr_res rfl rfl rfl (blk_set3 HD.out.hx)) rfl ?_
          rw [HP.out]
          exact ⟨rfl, _, HD.out.rd.box HD.out.hx, only_set3 HD.out.only HD.out.bxs, HD.out.hat⟩
end Go.Proofs.Ytibkhjpjneoabaa
